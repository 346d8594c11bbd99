/- Laws of append and of slices of the call's own, for every program; each with the premises that it names. -/
import Derived.Test.YtkjmbjedbmblmaaGreatDoorVcBuild
import Derived.Test.YtkjmbjedbmblmaaGreatDoorVcHeld
import Derived.Laws.AppendOwn
import Derived.Maps.AppendAt
namespace Go.Vc
open Go Go.RowKit

/-- a slice of the call's own (its array in a block from B on, of elements of type e), to which may be appended -/
def Grow {α : Type} (enc : α → List Value) (sz B e : Nat) (w : World) (a : Option Addr) (n c : Nat) (xs : List α) : Prop :=
  xs.length = n ∧ w.ownsRow B e sz (.slice a n c) n (flat enc xs)

theorem Grow.nil {α : Type} {enc : α → List Value} {sz B e : Nat} {w : World} : Grow enc sz B e w none 0 0 ([] : List α) := ⟨rfl, World.ownsRow_nil w B e sz⟩
theorem Grow.kept {α : Type} {enc : α → List Value} {sz B e : Nat} {w w' : World} {a : Option Addr} {n c : Nat} {xs : List α} (h : Grow enc sz B e w a n c xs) (hb : ∀ x, a = some x → w'.heap[x.block]? = w.heap[x.block]?) : Grow enc sz B e w' a n c xs := by
  obtain ⟨h1, h2, h3⟩ := h
  refine ⟨h1, h2, ?_⟩
  rcases h3 with h3 | ⟨g, cap, cur, hv, hB, hg, rest⟩
  · exact .inl h3
  · refine .inr ⟨g, cap, cur, hv, hB, ?_, rest⟩
    simp only [Value.slice.injEq] at hv
    have := hb _ hv.1
    simp only at this
    rw [this]; exact hg
theorem Grow.blk_lt {α : Type} {enc : α → List Value} {sz B e : Nat} {w : World} {a : Option Addr} {n c : Nat} {xs : List α} (h : Grow enc sz B e w a n c xs) : ∀ x, a = some x → B ≤ x.block ∧ x.block < w.heap.size := by
  intro x hx
  rcases h.2.2 with ⟨hv, _⟩ | ⟨g, cap, cur, hv, hB, hg, rest⟩
  · simp only [Value.slice.injEq] at hv; rw [hx] at hv; cases hv.1
  · simp only [Value.slice.injEq] at hv
    rw [hx] at hv
    have := Option.some.inj hv.1
    subst this
    exact ⟨hB, (Array.getElem?_eq_some_iff.1 hg).1⟩
theorem Grow.ext {α : Type} {enc : α → List Value} {sz B e : Nat} {w w' : World} {a : Option Addr} {n c : Nat} {xs : List α} (h : Grow enc sz B e w a n c xs) (x : Ext w w') : Grow enc sz B e w' a n c xs :=
  h.kept fun y hy => x.block _ (h.blk_lt y hy).2
theorem Grow.mod {α : Type} {enc : α → List Value} {sz B e : Nat} {S : Nat → Prop} {w w' : World} {a : Option Addr} {n c : Nat} {xs : List α} (h : Grow enc sz B e w a n c xs) (x : Mod S w w') (hs : ∀ y, a = some y → ¬ S y.block) : Grow enc sz B e w' a n c xs :=
  h.kept fun y hy => x.block _ (hs y hy) (h.blk_lt y hy).2
theorem Grow.new {α : Type} {enc : α → List Value} {sz B e : Nat} {w : World} {a : Option Addr} {n c : Nat} {xs : List α} (h : Grow enc sz B e w a n c xs) : NewAt B a := fun x hx => (h.blk_lt x hx).1
theorem Grow.len {α : Type} {enc : α → List Value} {sz B e : Nat} {w : World} {a : Option Addr} {n c : Nat} {xs : List α} (h : Grow enc sz B e w a n c xs) : xs.length = n := h.1
theorem Grow.le {α : Type} {enc : α → List Value} {sz B e : Nat} {w : World} {a : Option Addr} {n c : Nat} {xs : List α} (h : Grow enc sz B e w a n c xs) : n ≤ c ∧ n ≤ 9223372036854775807 := by
  rcases h.2.2 with ⟨hv, hn⟩ | ⟨g, cap, cur, hv, hB, hg, h1, h2, rest⟩
  · simp only [Value.slice.injEq] at hv; omega
  · simp only [Value.slice.injEq] at hv
    simp only [maxLen] at h2
    omega
theorem Grow.own {α : Type} {enc : α → List Value} {sz B e : Nat} {w : World} {a : Option Addr} {n c : Nat} {xs : List α} (h : Grow enc sz B e w a n c xs) : Own enc w a n e xs := by
  refine ⟨h.1, h.le.2, ?_⟩
  rcases h.2.2 with ⟨hv, hn⟩ | ⟨g, cap, cur, hv, hB, hg, h1, h2, h3, h4⟩
  · simp only [Value.slice.injEq] at hv; exact .inl ⟨hv.1, hn⟩
  · simp only [Value.slice.injEq] at hv
    refine .inr ⟨g, cur.toList.drop (n * sz), hv.1, ?_⟩
    unfold Blk
    rw [hg, ← h4, List.take_append_drop]
/-- a literal or a made row, as a slice to which may be appended -/
theorem Grow.of_blk {α : Type} {enc : α → List Value} {sz B e : Nat} (he : ∀ x, (enc x).length = sz) {w : World} {b n : Nat} {xs : List α} (h : Blk w b (flat enc xs) e) (hB : B ≤ b) (hn : xs.length = n) (hm : n ≤ 9223372036854775807) : Grow enc sz B e w (some ⟨b, 0, none⟩) n n xs := by
  refine ⟨hn, by rw [flat_length he, hn], .inr ⟨b, n, _, rfl, hB, h, Nat.le_refl _, by simp only [maxLen]; omega, ?_, ?_⟩⟩
  · simp [flat_length he, hn]
  · have := flat_length he xs
    rw [hn] at this
    simp only [← this]
    exact List.take_length

section
variable {P : Program}
/-- append(out, ys...) and append(out, y): onto a slice of the call's own; and where the new slice lies -/
theorem SemK.appendAt {α : Type} {enc : α → List Value} {t e by_ B : Nat} {zs : List Value} (ht : mkInfo P t = some (e, zs, by_)) (he : ∀ x, (enc x).length = zs.length) {w : World} {a : Option Addr} {n c : Nat} {xs : List α} (h : Grow enc zs.length B e w a n c xs)
    {b o m c' : Nat} {ys : List α} (hy : Cells w b o (flat enc ys)) (hl : ys.length = m) (hc : ∀ v ∈ flat enc ys, cellish v = true) (hsm : n + m ≤ 1099511627776) (hby : (n + m) * by_ ≤ 140737488355328) (hB : B ≤ w.heap.size) {ty : Nat} {cs : Array Bool} {K : Next → World → Prop}
    (hK : ∀ a' c' w', Grow enc zs.length B e w' a' (n + m) c' (xs ++ ys) → Mod (blkIn a) w w' → (∀ k, blkIn a' k → blkIn a k ∨ k = w.heap.size) → K (.value (.slice a' (n + m) c')) w') :
    SemK P (builtin .append #[t, t] ty cs #[.slice a n c, .slice (some ⟨b, o, none⟩) m c']) w K := by
  obtain ⟨i, z, hu, hi, hz, hzs, hbb, hs, hp⟩ := mkInfo_spec ht
  have hzl : zs.length = i.size := by rw [← hzs]; simp [hs]
  obtain ⟨h1, h2⟩ := h
  have hfl : (flat enc ys).length = m * zs.length := by rw [flat_length he, hl]
  have hone : ∀ v : Value, cellish v = true → v.oneCell' = true := by
    intro v hv; cases v <;> first | rfl | cases hv
  obtain ⟨v', w', hr, hown, hg, _, hat⟩ := run_append_own_at (P := P) w B t ty e i z zs.length by_ hu hi hz hzl.symm hbb (by rw [hs, hzl]) (by omega) (.slice a n c) n (flat enc xs) h2 ⟨b, o, none⟩ m c' (flat enc ys) hfl
    (fun j u hj => by rw [addr_add_none]; exact hy j u hj) (fun u hu => hone u (hc u hu)) (by simp only [maxLen]; omega) hby hB
  have hv' : ∃ a' c', v' = .slice a' (n + m) c' := by
    rcases hown.2 with ⟨rfl, hn⟩ | ⟨g, cap, cur, rfl, _⟩
    · exact ⟨none, 0, by rw [hn]⟩
    · exact ⟨_, _, rfl⟩
  obtain ⟨a', c2, rfl⟩ := hv'
  refine SemK.of (v := .value (.slice a' (n + m) c2)) (w' := w') ?_ (hK a' c2 w' ⟨by simp [h1, hl], by rw [flat_append]; exact hown⟩ ?_ ?_)
  · simp only [builtin, Sem.run_bind, hr, Result.andThen_ok]; rfl
  · refine ⟨hg.os, hg.tape, hg.output, hg.size, fun k hk hlt => hg.block k hlt fun hrow => hk ?_⟩
    cases a with
    | none => simp [Value.ownBlock] at hrow
    | some x =>
      simp only [Value.ownBlock, Option.some.injEq] at hrow
      exact ⟨x, rfl, hrow⟩
  · rintro k ⟨x, rfl, rfl⟩
    simp only [Value.ownBlock] at hat
    rcases hat with hat | hat
    · cases a with
      | none => cases hat
      | some y =>
        simp only [Option.some.injEq] at hat
        exact .inl ⟨y, rfl, hat⟩
    · simp only [Option.some.injEq] at hat
      exact .inr hat
theorem SemK.append {α : Type} {enc : α → List Value} {t e by_ B : Nat} {zs : List Value} (ht : mkInfo P t = some (e, zs, by_)) (he : ∀ x, (enc x).length = zs.length) {w : World} {a : Option Addr} {n c : Nat} {xs : List α} (h : Grow enc zs.length B e w a n c xs)
    {b o m c' : Nat} {ys : List α} (hy : Cells w b o (flat enc ys)) (hl : ys.length = m) (hc : ∀ v ∈ flat enc ys, cellish v = true) (hsm : n + m ≤ 1099511627776) (hby : (n + m) * by_ ≤ 140737488355328) (hB : B ≤ w.heap.size) {ty : Nat} {cs : Array Bool} {K : Next → World → Prop}
    (hK : ∀ a' c' w', Grow enc zs.length B e w' a' (n + m) c' (xs ++ ys) → Mod (blkIn a) w w' → K (.value (.slice a' (n + m) c')) w') :
    SemK P (builtin .append #[t, t] ty cs #[.slice a n c, .slice (some ⟨b, o, none⟩) m c']) w K :=
  SemK.appendAt ht he h hy hl hc hsm hby hB fun a' c' w' h1 h2 _ => hK a' c' w' h1 h2
/-- append(out, nil...) -/
theorem SemK.appendNone {α : Type} {enc : α → List Value} {t e by_ B : Nat} {zs : List Value} (ht : mkInfo P t = some (e, zs, by_)) {w : World} {a : Option Addr} {n c : Nat} {xs : List α} (h : Grow enc zs.length B e w a n c xs) {c' : Nat} {ty : Nat} {cs : Array Bool} {K : Next → World → Prop}
    (hK : K (.value (.slice a n c)) w) : SemK P (builtin .append #[t, t] ty cs #[.slice a n c, .slice none 0 c']) w K := by
  obtain ⟨i, z, hu, hi, hz, hzs, hbb, hs, hp⟩ := mkInfo_spec ht
  refine SemK.of ?_ hK
  have hle := h.le.1
  cases a with
  | none => simp [builtin, Builtin.append_, run_underlying hu, sizeOf, typeInfo, hi, Builtin.lenOf, hle, Builtin.firstCells]
  | some x => simp [builtin, Builtin.append_, run_underlying hu, sizeOf, typeInfo, hi, Builtin.lenOf, hle, Builtin.firstCells, storeCells]
theorem Arr.cells {α : Type} {enc : α → List Value} {sz : Nat} (he : ∀ x, (enc x).length = sz) {w : World} {b o : Nat} : ∀ {xs : List α} {k n : Nat}, (∀ i x, xs[i]? = some x → Cells w b (o + (k + i) * sz) (enc x)) → xs.length = n → Cells w b (o + k * sz) (flat enc xs)
  | [], k, n, _, _ => by intro j v hj; simp [flat] at hj
  | x :: xs, k, n, h, hn => by
    have h0 : Cells w b (o + k * sz) (enc x) := by simpa using h 0 x rfl
    have ih := Arr.cells he (xs := xs) (k := k + 1) (n := xs.length) (fun i y hy => by
      have := h (i + 1) y (by simpa using hy)
      have e : k + (i + 1) = k + 1 + i := by omega
      rwa [e] at this) rfl
    simp only [flat, List.flatMap_cons]
    rw [Cells.append]
    refine ⟨h0, ?_⟩
    rw [he]
    have e : o + (k + 1) * sz = o + k * sz + sz := by rw [Nat.add_mul]; omega
    rwa [e] at ih
/-- append(out, ys...): ys a slice that reads as the list ys -/
theorem SemK.appendArr {α : Type} {enc : α → List Value} {t e by_ B : Nat} {zs : List Value} (ht : mkInfo P t = some (e, zs, by_)) (he : ∀ x, (enc x).length = zs.length) {w : World} {a : Option Addr} {n c : Nat} {xs : List α} (h : Grow enc zs.length B e w a n c xs)
    {a2 : Option Addr} {m c' : Nat} {ys : List α} (hy : Arr enc zs.length w a2 m ys) (hf : ∀ x, a2 = some x → x.spot = none) (hc : ∀ y ∈ ys, ∀ v ∈ enc y, cellish v = true) (hsm : n + m ≤ 1099511627776) (hby : (n + m) * by_ ≤ 140737488355328) (hB : B ≤ w.heap.size) {ty : Nat} {cs : Array Bool} {K : Next → World → Prop}
    (hK : ∀ a' c' w', Grow enc zs.length B e w' a' (n + m) c' (xs ++ ys) → Mod (blkIn a) w w' → (∀ k, blkIn a' k → blkIn a k ∨ k = w.heap.size) → K (.value (.slice a' (n + m) c')) w') :
    SemK P (builtin .append #[t, t] ty cs #[.slice a n c, .slice a2 m c']) w K := by
  cases a2 with
  | none =>
    have hm : m = 0 := by
      rcases Nat.eq_zero_or_pos m with h0 | h0
      · exact h0
      · obtain ⟨y, hy0⟩ : ∃ y, ys[0]? = some y := ⟨_, List.getElem?_eq_getElem (by rw [hy.1]; exact h0)⟩
        obtain ⟨_, _, hb, _⟩ := hy.2.2 0 y hy0
        cases hb
    subst hm
    have hys : ys = [] := List.eq_nil_of_length_eq_zero hy.1
    subst hys
    exact SemK.appendNone ht h (hK a c w (by simpa using h) (Mod.refl _ _) (fun k hk => .inl hk))
  | some x =>
    obtain ⟨b, o, spot⟩ := x
    have hsp : spot = none := hf _ rfl
    subst hsp
    refine SemK.appendAt ht he h (ys := ys) ?_ hy.1 ?_ hsm hby hB hK
    · have := Arr.cells he (w := w) (b := b) (o := o) (xs := ys) (k := 0) (n := m) (fun i y hi => by
        obtain ⟨b', o', hb, hcs⟩ := hy.2.2 i y hi
        cases hb
        simpa using hcs) hy.1
      simpa using this
    · intro v hv
      simp only [flat, List.mem_flatMap] at hv
      obtain ⟨y, hy1, hy2⟩ := hv
      exact hc y hy1 v hy2
theorem blkIn_new {B : Nat} {a : Option Addr} (h : NewAt B a) : ∀ k, blkIn a k → B ≤ k := by
  rintro k ⟨x, hx, rfl⟩; exact h x hx
end
/-- a byte in one cell -/
def eB (c : UInt8) : List Value := [.int .u8 c.toNat]
theorem eB_len (c : UInt8) : (eB c).length = 1 := rfl
theorem flat_eB : ∀ l : List UInt8, flat eB l = byteCells l
  | [] => rfl
  | c :: l => by have := flat_eB l; simp only [flat, byteCells, List.flatMap_cons, List.map_cons] at *; rw [this]; rfl
/-- string(bytes), of a slice of the call's own -/
theorem SemK.toStrG {P : Program} {s t : Nat} (hs : isBytes P s = true) (ht : isStr P t = true) {w : World} {B e : Nat} {a : Option Addr} {n c : Nat} {l : List UInt8} (h : Grow eB 1 B e w a n c l) {K : Value → World → Prop} (hK : K (.string (bs l)) w) :
    SemK P (convert s t (.slice a n c)) w K := by
  obtain ⟨h1, _, h3⟩ := h.own
  rcases h3 with ⟨rfl, rfl⟩ | ⟨b, rest, rfl, hb⟩
  · have : l = [] := List.eq_nil_of_length_eq_zero h1
    subst this; exact SemK.toStr0 hs ht hK
  · refine SemK.toStr hs ht (l := l) ?_ h1 hK
    have := (Cells.append.1 hb.cells).1
    rwa [flat_eB] at this
/-- a literal with no elements, as a slice to which may be appended -/
theorem Grow.new0 {α : Type} {enc : α → List Value} {sz : Nat} (he : ∀ x, (enc x).length = sz) {w : World} {B b e : Nat} (h : Blk w b [] e) (hB : B ≤ b) : Grow enc sz B e w (some ⟨b, 0, none⟩) 0 0 ([] : List α) :=
  Grow.of_blk he h hB rfl (by omega)
theorem map_take_succ {α β : Type} {f : α → β} {xs : List α} {k : Nat} {x : α} (h : xs[k]? = some x) : (xs.take (k + 1)).map f = (xs.take k).map f ++ [f x] := by
  rw [List.take_add_one, h]; simp
theorem Own.lt {α : Type} {enc : α → List Value} {w : World} {a : Option Addr} {n t : Nat} {xs : List α} (h : Own enc w a n t xs) : ∀ x, a = some x → x.block < w.heap.size := by
  intro x hx
  rcases h.2.2 with ⟨ha, _⟩ | ⟨b, rest, ha, hb⟩
  · rw [ha] at hx; cases hx
  · rw [ha] at hx; cases hx; exact hb.lt
theorem Arr.lt {α : Type} {enc : α → List Value} {sz : Nat} {w : World} {a : Option Addr} {n : Nat} {xs : List α} (h : Arr enc sz w a n xs) (hp : ∀ x, enc x ≠ []) (hn : 0 < n) : ∀ x, a = some x → x.block < w.heap.size := by
  intro x hx
  obtain ⟨y, hy⟩ : ∃ y, xs[0]? = some y := ⟨_, List.getElem?_eq_getElem (by rw [h.1]; exact hn)⟩
  obtain ⟨b, o, ha, hc⟩ := h.2.2 0 y hy
  rw [ha] at hx; cases hx
  obtain ⟨v, vs, hv⟩ := List.exists_cons_of_ne_nil (hp y)
  have h0 := cell_lt (hc 0 v (by rw [hv]; rfl))
  exact h0
theorem NewAt.some {B b : Nat} (h : B ≤ b) : NewAt B (some ⟨b, 0, none⟩) := fun x hx => by cases hx; exact h
/-- an elder block is not in a newer slice -/
theorem apart {a a' : Option Addr} {B B' : Nat} (h : ∀ x, a = some x → x.block < B) (h' : NewAt B' a') (hB : B ≤ B') : ∀ x, a = some x → ¬ blkIn a' x.block := by
  rintro x hx ⟨y, hy, e⟩
  have := h x hx
  have := h' y hy
  omega
/-- a newer block is not in an elder slice -/
theorem apart' {a a' : Option Addr} {B B' : Nat} (h : NewAt B' a) (h' : ∀ x, a' = some x → x.block < B) (hB : B ≤ B') : ∀ x, a = some x → ¬ blkIn a' x.block := by
  rintro x hx ⟨y, hy, e⟩
  have := h x hx
  have := h' y hy
  omega
/-- append(out, ys...) where ys has no elements -/
theorem SemK.appendZero {P : Program} {α : Type} {enc : α → List Value} {t e by_ B : Nat} {zs : List Value} (ht : mkInfo P t = some (e, zs, by_)) {w : World} {a : Option Addr} {n c : Nat} {xs : List α} (h : Grow enc zs.length B e w a n c xs) {x : Addr} {c' : Nat} {ty : Nat} {cs : Array Bool} {K : Next → World → Prop}
    (hK : K (.value (.slice a n c)) w) : SemK P (builtin .append #[t, t] ty cs #[.slice a n c, .slice (some x) 0 c']) w K := by
  obtain ⟨i, z, hu, hi, hz, hzs, hbb, hs, hp⟩ := mkInfo_spec ht
  refine SemK.of ?_ hK
  have hle := h.le.1
  cases a with
  | none => simp [builtin, Builtin.append_, run_underlying hu, sizeOf, typeInfo, hi, Builtin.lenOf, hle, Builtin.firstCells, loadCells, loadCellsFrom]
  | some y => simp [builtin, Builtin.append_, run_underlying hu, sizeOf, typeInfo, hi, Builtin.lenOf, hle, Builtin.firstCells, loadCells, loadCellsFrom, storeCells]
/-- append(out, ys...): ys whatever slice reads as the list ys -/
theorem SemK.appendArr0 {P : Program} {α : Type} {enc : α → List Value} {t e by_ B : Nat} {zs : List Value} (ht : mkInfo P t = some (e, zs, by_)) (he : ∀ x, (enc x).length = zs.length) {w : World} {a : Option Addr} {n c : Nat} {xs : List α} (h : Grow enc zs.length B e w a n c xs)
    {a2 : Option Addr} {m c' : Nat} {ys : List α} (hy : Arr enc zs.length w a2 m ys) (hc : ∀ y ∈ ys, ∀ v ∈ enc y, cellish v = true) (hsm : n + m ≤ 1099511627776) (hby : (n + m) * by_ ≤ 140737488355328) (hB : B ≤ w.heap.size) {ty : Nat} {cs : Array Bool} {K : Next → World → Prop}
    (hK : ∀ a' c' w', Grow enc zs.length B e w' a' (n + m) c' (xs ++ ys) → Mod (blkIn a) w w' → (∀ k, blkIn a' k → blkIn a k ∨ k = w.heap.size) → K (.value (.slice a' (n + m) c')) w') :
    SemK P (builtin .append #[t, t] ty cs #[.slice a n c, .slice a2 m c']) w K := by
  rcases Nat.eq_zero_or_pos m with h0 | h0
  · subst h0
    have hys : ys = [] := List.eq_nil_of_length_eq_zero hy.1
    subst hys
    cases a2 with
    | none => exact SemK.appendNone ht h (hK a c w (by simpa using h) (Mod.refl _ _) (fun k hk => .inl hk))
    | some x => exact SemK.appendZero ht h (hK a c w (by simpa using h) (Mod.refl _ _) (fun k hk => .inl hk))
  · refine SemK.appendArr ht he h hy (fun x hx => ?_) hc hsm hby hB hK
    obtain ⟨y, hy0⟩ : ∃ y, ys[0]? = some y := ⟨_, List.getElem?_eq_getElem (by rw [hy.1]; exact h0)⟩
    obtain ⟨b, o, hb, _⟩ := hy.2.2 0 y hy0
    rw [hb] at hx
    cases hx
    rfl
/-- append([]T{}, ys...): a copy -/
theorem SemK.appendNew {P : Program} {α : Type} {enc : α → List Value} {t e by_ B : Nat} {zs : List Value} (ht : mkInfo P t = some (e, zs, by_)) (he : ∀ x, (enc x).length = zs.length) {w : World} {a : Option Addr} {c : Nat} (h : Grow enc zs.length B e w a 0 c ([] : List α))
    {a2 : Option Addr} {m c' : Nat} {ys : List α} (hy : Arr enc zs.length w a2 m ys) (hc : ∀ y ∈ ys, ∀ v ∈ enc y, cellish v = true) (hsm : m ≤ 1099511627776) (hby : m * by_ ≤ 140737488355328) (hB : B ≤ w.heap.size) {ty : Nat} {cs : Array Bool} {K : Next → World → Prop}
    (hK : ∀ a' c' w', Grow enc zs.length B e w' a' m c' ys → Mod (blkIn a) w w' → (∀ k, blkIn a' k → blkIn a k ∨ k = w.heap.size) → K (.value (.slice a' m c')) w') :
    SemK P (builtin .append #[t, t] ty cs #[.slice a 0 c, .slice a2 m c']) w K :=
  SemK.appendArr0 ht he h hy hc (by omega) (by rw [Nat.zero_add]; exact hby) hB fun a' c' w' hG hM hi => by
    have := hK a' c' w' (by simpa using hG) hM hi
    rw [Nat.zero_add]
    exact this
theorem Own.some {α : Type} {enc : α → List Value} {w : World} {a : Option Addr} {n t : Nat} {xs : List α} (h : Own enc w a n t xs) (hn : 0 < n) : ∃ b : Nat, a = some ⟨b, 0, none⟩ := by
  rcases h.2.2 with ⟨_, h0⟩ | ⟨b, rest, ha, _⟩
  · omega
  · exact ⟨b, ha⟩
theorem Own.elem {α : Type} {enc : α → List Value} {sz : Nat} (he : ∀ x, (enc x).length = sz) {w : World} {b n t : Nat} {xs : List α} (h : Own enc w (Option.some ⟨b, 0, none⟩) n t xs) {k : Nat} {x : α} (hx : xs[k]? = Option.some x) : Cells w b (0 + k * sz) (enc x) := by
  rcases h.2.2 with ⟨ha, _⟩ | ⟨b', rest, ha, hb⟩
  · cases ha
  · cases ha
    exact Cells.elem he hb.cells hx
theorem take_cons_drop {α : Type} {xs : List α} {k : Nat} {x : α} (h : xs[k]? = Option.some x) : xs.take k ++ x :: xs.drop (k + 1) = xs := by
  rw [← drop_cons h, List.take_append_drop]
theorem set_get {α : Type} {xs : List α} {k : Nat} {x : α} (h : xs[k]? = Option.some x) (y : α) : (xs.set k y)[k]? = Option.some y := by
  have := (List.getElem?_eq_some_iff.1 h).1
  simp [this]
theorem set_split {α : Type} {xs : List α} {k : Nat} {x y : α} (h : xs[k]? = Option.some x) : xs.set k y = xs.take k ++ y :: xs.drop (k + 1) := set_take_drop xs k y (List.getElem?_eq_some_iff.1 h).1
theorem flat_upd {α : Type} {enc : α → List Value} {sz : Nat} (he : ∀ x, (enc x).length = sz) {xs : List α} {k j : Nat} {x x' : α} (hx : xs[k]? = Option.some x) (hj : j < sz) {v : Value} (hx' : (enc x).set j v = enc x') (rest : List Value) :
    (flat enc xs ++ rest).set (k * sz + j) v = flat enc (xs.set k x') ++ rest := by
  have hk := (List.getElem?_eq_some_iff.1 hx).1
  have h1 := flat_update he (xs.take k) (xs.drop (k + 1)) x x' rest j v hj hx'
  rw [take_cons_drop hx, List.length_take, Nat.min_eq_left (by omega)] at h1
  rw [h1, set_split hx]
/-- a cell of an element of one's own slice is overwritten -/
theorem SemK.storeOwn1 {P : Program} {α : Type} {enc : α → List Value} {sz : Nat} {ty : Nat} (hty : oneCell P ty = true) (he : ∀ x, (enc x).length = sz) {w : World} {b n t k j : Nat} {xs : List α} (h : Own enc w (Option.some ⟨b, 0, none⟩) n t xs) {x : α} (hx : xs[k]? = Option.some x) (hj : j < sz) {v : Value} (hv : cellish v = true) (x' : α) (hx' : (enc x).set j v = enc x')
    {K : Unit → World → Prop} (hK : ∀ w', Chg b w w' → Own enc w' (Option.some ⟨b, 0, none⟩) n t (xs.set k x') → K () w') : SemK P (Instr.storeAt ty (.pointer (Option.some ⟨b, 0 + k * sz + j, none⟩)) v) w K := by
  obtain ⟨h1, h2, h3⟩ := h
  rcases h3 with ⟨ha, _⟩ | ⟨b', rest, ha, hb⟩
  · cases ha
  · cases ha
    have hk := (List.getElem?_eq_some_iff.1 hx).1
    have hlt : k * sz + j < (flat enc xs ++ rest).length := by
      rw [List.length_append, flat_length he]
      have := Nat.mul_le_mul_right sz (show k + 1 ≤ xs.length by omega)
      rw [Nat.add_mul] at this
      omega
    rw [Nat.zero_add]
    refine SemK.store1 hty hb hlt hv fun w' hc hB => hK w' hc ⟨by simpa using h1, h2, .inr ⟨b, rest, rfl, ?_⟩⟩
    rw [flat_upd he hx hj hx'] at hB
    exact hB
theorem SemK.storeOwn {P : Program} {α : Type} {enc : α → List Value} {sz : Nat} {ty : Nat} (hty : aggSize P ty = Option.some sz) (he : ∀ x, (enc x).length = sz) {w : World} {b n t k : Nat} {xs : List α} (h : Own enc w (Option.some ⟨b, 0, none⟩) n t xs) {x : α} (hx : xs[k]? = Option.some x) (x' : α) (hv : ∀ v ∈ enc x', cellish v = true)
    {K : Unit → World → Prop} (hK : ∀ w', Chg b w w' → Own enc w' (Option.some ⟨b, 0, none⟩) n t (xs.set k x') → K () w') : SemK P (Instr.storeAt ty (.pointer (Option.some ⟨b, 0 + k * sz, none⟩)) (.agg ⟨enc x'⟩)) w K := by
  obtain ⟨h1, h2, h3⟩ := h
  rcases h3 with ⟨ha, _⟩ | ⟨b', rest, ha, hb⟩
  · cases ha
  · cases ha
    have hk := (List.getElem?_eq_some_iff.1 hx).1
    have hlt : k * sz + sz ≤ (flat enc xs ++ rest).length := by
      rw [List.length_append, flat_length he]
      have := Nat.mul_le_mul_right sz (show k + 1 ≤ xs.length by omega)
      rw [Nat.add_mul] at this
      omega
    rw [Nat.zero_add]
    refine SemK.storeAgg hty hb (he x') hlt hv fun w' hc hB => hK w' hc ⟨by simpa using h1, h2, .inr ⟨b, rest, rfl, ?_⟩⟩
    have e : (flat enc xs ++ rest).take (k * sz) ++ enc x' ++ (flat enc xs ++ rest).drop (k * sz + sz) = flat enc (xs.set k x') ++ rest := by
      have hs := take_cons_drop hx
      have hl : (flat enc (xs.take k)).length = k * sz := by rw [flat_length he, List.length_take, Nat.min_eq_left (by omega)]
      have hf : flat enc xs = flat enc (xs.take k) ++ (enc x ++ flat enc (xs.drop (k + 1))) := by
        conv => lhs; rw [← hs]
        rw [flat_append]
        simp [flat]
      have t1 : (flat enc xs ++ rest).take (k * sz) = flat enc (xs.take k) := by
        rw [hf, List.append_assoc, ← hl, List.take_left]
      have t2 : (flat enc xs ++ rest).drop (k * sz + sz) = flat enc (xs.drop (k + 1)) ++ rest := by
        rw [hf, List.append_assoc, List.append_assoc, ← hl, ← List.drop_drop, List.drop_left]
        rw [show sz = (enc x).length from (he x).symm, List.drop_left]
      rw [t1, t2, set_split hx, flat_append]
      simp [flat]
    rw [e] at hB
    exact hB
/-- the same, of a slice to which may be appended -/
theorem Grow.of_own {α : Type} {enc : α → List Value} {sz B e : Nat} (he : ∀ x, (enc x).length = sz) {w w' : World} {b n c : Nat} {xs ys : List α} (h : Grow enc sz B e w (Option.some ⟨b, 0, none⟩) n c xs) (hs : ∀ cs t, Blk w b cs t → ∃ cs', Blk w' b cs' t ∧ cs'.length = cs.length) (ho : Own enc w' (Option.some ⟨b, 0, none⟩) n e ys) : Grow enc sz B e w' (Option.some ⟨b, 0, none⟩) n c ys := by
  obtain ⟨h1, h2, h3⟩ := h
  rcases h3 with ⟨hv, _⟩ | ⟨g, cap, cur, hv, hB, hg, hr1, hr2, hr3, hr4⟩
  · cases hv
  · simp only [Value.slice.injEq, Option.some.injEq, Addr.mk.injEq, and_true, true_and] at hv
    obtain ⟨rfl, rfl⟩ := hv
    obtain ⟨p1, p2, p3⟩ := ho
    rcases p3 with ⟨ha, _⟩ | ⟨b', rest, ha, hb⟩
    · cases ha
    · cases ha
      obtain ⟨cs', hcs, hl⟩ := hs cur.toList e (by unfold Blk; simpa using hg)
      unfold Blk at hcs hb
      rw [hb] at hcs
      simp only [Option.some.injEq, Obj.cells.injEq, and_true] at hcs
      have hcs' : flat enc ys ++ rest = cs' := by
        have := congrArg Array.toList hcs
        simpa using this
      refine ⟨p1, by rw [flat_length he, p1], .inr ⟨b, c, _, rfl, hB, hb, hr1, hr2, ?_, ?_⟩⟩
      · simp only [List.size_toArray]
        rw [hcs', hl]
        simpa using hr3
      · simp only
        have : (flat enc ys).length = n * sz := by rw [flat_length he, p1]
        rw [← this, List.take_left]
theorem Blk.inj {w : World} {b t t' : Nat} {cs cs' : List Value} (h : Blk w b cs t) (h' : Blk w b cs' t') : cs' = cs ∧ t' = t := by
  unfold Blk at h h'
  rw [h] at h'
  simp only [Option.some.injEq, Obj.cells.injEq, and_true] at h'
  exact ⟨by have := congrArg Array.toList h'.1; simpa using this.symm, h'.2.symm⟩
theorem SemK.storeGrow1 {P : Program} {α : Type} {enc : α → List Value} {sz B e : Nat} {ty : Nat} (hty : oneCell P ty = true) (he : ∀ x, (enc x).length = sz) {w : World} {b n c k j : Nat} {xs : List α} (h : Grow enc sz B e w (Option.some ⟨b, 0, none⟩) n c xs) {x : α} (hx : xs[k]? = Option.some x) (hj : j < sz) {v : Value} (hv : cellish v = true) (x' : α) (hx' : (enc x).set j v = enc x')
    {K : Unit → World → Prop} (hK : ∀ w', Chg b w w' → Grow enc sz B e w' (Option.some ⟨b, 0, none⟩) n c (xs.set k x') → K () w') : SemK P (Instr.storeAt ty (.pointer (Option.some ⟨b, 0 + k * sz + j, none⟩)) v) w K := by
  have ho := h.own
  obtain ⟨h1, h2, h3⟩ := ho
  rcases h3 with ⟨ha, _⟩ | ⟨b', rest, ha, hb⟩
  · cases ha
  · cases ha
    have hk := (List.getElem?_eq_some_iff.1 hx).1
    have hlt : k * sz + j < (flat enc xs ++ rest).length := by
      rw [List.length_append, flat_length he]
      have := Nat.mul_le_mul_right sz (show k + 1 ≤ xs.length by omega)
      rw [Nat.add_mul] at this
      omega
    rw [Nat.zero_add]
    refine SemK.store1 hty hb hlt hv fun w' hc hB => hK w' hc (Grow.of_own he h (fun cs t hcs => ?_) ⟨by simpa using h1, h2, .inr ⟨b, rest, rfl, ?_⟩⟩)
    · obtain ⟨rfl, rfl⟩ := Blk.inj hb hcs
      exact ⟨_, hB, by simp⟩
    · rw [flat_upd he hx hj hx'] at hB
      exact hB
theorem DSemK.indexOwn {P : Program} {sz t : Nat} (ht : elemSize P t = Option.some sz) {w : World} {b o n c : Nat} {i : Int} (k : Nat) (hi : i = k) (hlt : k < n) {kd : IntKind}
    {K : Value → Prop} (hK : K (.pointer (Option.some ⟨b, o + k * sz, none⟩))) : DSemK P (Instr.indexAt t (.slice (Option.some ⟨b, o, none⟩) n c) (.int kd i)) w K :=
  DSemK.of (fun _ _ => SemK.indexOwn ht k hi hlt ⟨rfl, rfl⟩) hK
theorem flat_rep {α : Type} {enc : α → List Value} {z : α} {zs : List Value} (hz : enc z = zs) : ∀ n : Nat, flat (fun _ : Unit => zs) (List.replicate n ()) = flat enc (List.replicate n z)
  | 0 => rfl
  | n + 1 => by
    have ih := flat_rep hz n
    simp only [flat, List.replicate_succ, List.flatMap_cons] at *
    rw [ih, hz]
/-- a made row, as a slice of the call's own -/
theorem Grow.of_make {α : Type} {enc : α → List Value} {sz B e : Nat} (he : ∀ x, (enc x).length = sz) {z : α} {zs : List Value} (hz : enc z = zs) {w : World} {b n : Nat} (h : Blk w b (flat (fun _ : Unit => zs) (List.replicate n ())) e) (hB : B ≤ b) (hm : n ≤ 9223372036854775807) : Grow enc sz B e w (Option.some ⟨b, 0, none⟩) n n (List.replicate n z) :=
  Grow.of_blk he (by rw [← flat_rep hz]; exact h) hB (by simp) hm
/-- the first k are filled in -/
theorem fill_get {α : Type} {xs : List α} {n k : Nat} (z : α) (hn : xs.length = n) (hk : k < n) : (xs.take k ++ List.replicate (n - k) z)[k]? = Option.some z := by
  have hl : (xs.take k).length = k := by simp; omega
  rw [List.getElem?_append_right (by omega), hl, Nat.sub_self, List.getElem?_replicate, if_pos (by omega)]
theorem fill_set {α : Type} {xs : List α} {n k : Nat} {z x : α} (hn : xs.length = n) (hx : xs[k]? = Option.some x) : (xs.take k ++ List.replicate (n - k) z).set k x = xs.take (k + 1) ++ List.replicate (n - (k + 1)) z := by
  have hk := (List.getElem?_eq_some_iff.1 hx).1
  have hl : (xs.take k).length = k := by simp; omega
  obtain ⟨m, hm⟩ : ∃ m, n - k = m + 1 := ⟨n - k - 1, by omega⟩
  rw [hm, List.replicate_succ, List.set_append_right _ _ (by omega), hl, Nat.sub_self, List.set_cons_zero, List.take_add_one, hx]
  rw [show n - (k + 1) = m by omega]
  simp
/-- a load of a part of a larger aggregate -/
theorem SemK.loadAggAt {P : Program} {ty n : Nat} (hty : aggSize P ty = some n) {w : World} {b o k : Nat} {vs : List Value} (h : Cells w b o vs) (hn : ((vs.drop k).take n).length = n) {K : Value → World → Prop} (hK : K (.agg ((vs.drop k).take n).toArray) w) :
    SemK P (Instr.loadAt ty (.pointer (some ⟨b, o + k, none⟩))) w K := SemK.loadAgg hty ((h.drop k).take n) hn hK
theorem DSemK.loadAggAt {P : Program} {ty n : Nat} (hty : aggSize P ty = some n) {w : World} {b o k : Nat} {vs : List Value} (h : Cells w b o vs) (hn : ((vs.drop k).take n).length = n) {K : Value → Prop} (hK : K (.agg ((vs.drop k).take n).toArray)) :
    DSemK P (Instr.loadAt ty (.pointer (some ⟨b, o + k, none⟩))) w K := DSemK.loadAgg hty ((h.drop k).take n) hn hK
/-- a whole variable is overwritten -/
theorem SemK.storeAll {P : Program} {ty n : Nat} (hty : aggSize P ty = some n) {w : World} {b t : Nat} {cs : List Value} (h : Blk w b cs t) {vs : List Value} (hn : vs.length = n) (hc : cs.length = n) (hv : ∀ v ∈ vs, cellish v = true) {K : Unit → World → Prop}
    (hK : ∀ w', Chg b w w' → Blk w' b vs t → K () w') : SemK P (Instr.storeAt ty (.pointer (some ⟨b, 0, none⟩)) (.agg ⟨vs⟩)) w K :=
  SemK.storeAgg hty h (k := 0) hn (by omega) hv fun w' hc' hB => hK w' hc' (by
    have e : cs.take 0 ++ vs ++ cs.drop (0 + n) = vs := by
      rw [List.drop_eq_nil_of_le (by omega)]; simp
    rw [e] at hB
    exact hB)
theorem SemK.max2 {P : Program} {ats : Array TypeId} {ty : Nat} {cs : Array Bool} {k k' : IntKind} {a b : Int} {w : World} {K : Next → World → Prop} (hK : K (.value (.int k (max a b))) w) :
    SemK P (builtin .max ats ty cs #[.int k a, .int k' b]) w K := by
  refine SemK.of ?_ hK
  have e : max a b = if b > a then b else a := by split <;> omega
  simp [builtin, Builtin.max_, Builtin.max2, e]
theorem SemK.min2 {P : Program} {ats : Array TypeId} {ty : Nat} {cs : Array Bool} {k k' : IntKind} {a b : Int} {w : World} {K : Next → World → Prop} (hK : K (.value (.int k (min a b))) w) :
    SemK P (builtin .min ats ty cs #[.int k a, .int k' b]) w K := by
  refine SemK.of ?_ hK
  have e : min a b = if b < a then b else a := by split <;> omega
  simp [builtin, Builtin.min_, Builtin.min2, e]
/-- the second slice's array is not the first one's -/
def Apart (a b : Option Addr) : Prop := ∀ y, b = some y → ¬ blkIn a y.block
theorem Apart.of {a b : Nat} (h : a ≠ b) : Apart (some ⟨a, 0, none⟩) (some ⟨b, 0, none⟩) := by
  rintro _ ⟨⟩ ⟨x, hx, e⟩
  cases hx
  exact h e.symm
theorem Apart.symm {a b : Option Addr} (h : Apart a b) : Apart b a := by
  rintro y hy ⟨x, hx, e⟩
  exact h x hx ⟨y, hy, e.symm⟩
/-- behind an append to the first -/
theorem Apart.app {a a' b : Option Addr} {B : Nat} (h : Apart a b) (hi : ∀ k, blkIn a' k → blkIn a k ∨ k = B) (hb : ∀ x, b = some x → x.block < B) : Apart a' b := by
  intro y hy hk
  rcases hi _ hk with h1 | h1
  · exact h y hy h1
  · have := hb y hy
    omega
theorem Grow.base {α : Type} {enc : α → List Value} {sz B B' e : Nat} {w : World} {a : Option Addr} {n c : Nat} {xs : List α} (h : Grow enc sz B e w a n c xs) (hb : B' ≤ B) : Grow enc sz B' e w a n c xs := by
  obtain ⟨h1, h2, h3⟩ := h
  refine ⟨h1, h2, ?_⟩
  rcases h3 with h3 | ⟨g, cap, cur, hv, hB, rest⟩
  · exact .inl h3
  · exact .inr ⟨g, cap, cur, hv, Nat.le_trans hb hB, rest⟩
theorem Grow.lt {α : Type} {enc : α → List Value} {sz B e : Nat} {w : World} {a : Option Addr} {n c : Nat} {xs : List α} (h : Grow enc sz B e w a n c xs) : ∀ x, a = some x → x.block < w.heap.size := fun x hx => (h.blk_lt x hx).2
theorem i64_wrap {n : Int} (h1 : -9223372036854775808 ≤ n) (h2 : n ≤ 9223372036854775807) : IntKind.wrap .i64 n = n := IntWalk.i64_in n ⟨h1, h2⟩
theorem data_len (s : ByteArray) : s.data.toList.length = s.size := by simp
end Go.Vc
