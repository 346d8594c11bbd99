/- Contracts of functions of the given program, of the reference and of the laws: each says what a call returns, for all arguments that meet the premises that the theorem itself names. -/
import Derived.Test.YtmhnmdcleeadiaaPackM
import Derived.Test.YtmhnmdcleeadiaaPack
import Derived.Test.YtmhnmdcleeadiaaKept
namespace Go.M
open Go Go.Vc
/-! the order of names -/
theorem bl_irrefl : ∀ l : List UInt8, Op.bytesLess l l = false
  | [] => rfl
  | a :: l => by simp [Op.bytesLess, bl_irrefl l]
theorem bl_trans : ∀ x y z : List UInt8, Op.bytesLess x y = true → Op.bytesLess y z = true → Op.bytesLess x z = true
  | _, [], _, h, _ => by simp [Op.bytesLess] at h
  | _, _ :: _, [], _, h => by simp [Op.bytesLess] at h
  | [], _ :: _, _ :: _, _, _ => rfl
  | a :: x, b :: y, c :: z, h1, h2 => by
    simp only [Op.bytesLess, Bool.or_eq_true, Bool.and_eq_true, decide_eq_true_eq, beq_iff_eq] at h1 h2 ⊢
    rcases h1 with h1 | ⟨rfl, h1⟩ <;> rcases h2 with h2 | ⟨rfl, h2⟩
    · exact .inl (UInt8.lt_trans h1 h2)
    · exact .inl h1
    · exact .inl h2
    · exact .inr ⟨rfl, bl_trans x y z h1 h2⟩
theorem bl_total : ∀ x y : List UInt8, Op.bytesLess x y = false → Op.bytesLess y x = false → x = y
  | [], [], _, _ => rfl
  | [], _ :: _, h, _ => by simp [Op.bytesLess] at h
  | _ :: _, [], _, h => by simp [Op.bytesLess] at h
  | a :: x, b :: y, h1, h2 => by
    simp only [Op.bytesLess, Bool.or_eq_false_iff, Bool.and_eq_false_iff, decide_eq_false_iff_not, beq_eq_false_iff_ne] at h1 h2
    have hab : a = b := by
      apply Classical.byContradiction
      intro hne
      rcases UInt8.lt_or_lt_of_ne hne with h | h
      · exact h1.1 h
      · exact h2.1 h
    subst hab
    rw [bl_total x y (by simpa using h1.2) (by simpa using h2.2)]
theorem bl_asymm {x y : List UInt8} (h : Op.bytesLess x y = true) : Op.bytesLess y x = false := by
  cases h2 : Op.bytesLess y x with
  | false => rfl
  | true => have := bl_trans x y x h h2; rw [bl_irrefl] at this; cases this
def nameLt (a b : TBox) : Prop := Op.bytesLess a.name.toList b.name.toList = true
theorem nameLt_trans {a b c : TBox} (h : nameLt a b) (k : nameLt b c) : nameLt a c := bl_trans _ _ _ h k
theorem boxAt_next {xs : List TBox} {i : Nat} {x y : TBox} (hx : xs[i]? = some x) (hy : xs[i + 1]? = some y) : boxAt xs (i + 1) = (boxB y && Op.bytesLess x.name.toList y.name.toList) := by
  simp [boxAt, hx, hy, ltB]
theorem boxAt_first {xs : List TBox} {x : TBox} (hx : xs[0]? = some x) : boxAt xs 0 = boxB x := by simp [boxAt, hx]
theorem boxesB_iff {xs : List TBox} : boxesB xs = true ↔ xs.length ≤ 40 ∧ (∀ x ∈ xs, boxB x = true) ∧ xs.Pairwise nameLt := by
  constructor
  · intro h
    obtain ⟨h1, h2⟩ := boxesB_mem h
    refine ⟨h1, h2, ?_⟩
    simp only [boxesB, Bool.and_eq_true, List.all_eq_true, List.mem_range] at h
    have key : ∀ d i x y, xs[i]? = some x → xs[i + d + 1]? = some y → nameLt x y := by
      intro d
      induction d with
      | zero =>
        intro i x y hx hy
        have := h.1 (i + 1) (List.getElem?_eq_some_iff.1 hy).1
        rw [boxAt_next hx hy, Bool.and_eq_true] at this
        exact this.2
      | succ d ih =>
        intro i x y hx hy
        obtain ⟨z, hz⟩ := get_of_lt (l := xs) (k := i + d + 1) (by have := (List.getElem?_eq_some_iff.1 hy).1; omega)
        have h3 := h.1 (i + d + 1 + 1) (List.getElem?_eq_some_iff.1 hy).1
        rw [boxAt_next hz hy, Bool.and_eq_true] at h3
        exact nameLt_trans (ih i x z hx hz) h3.2
    rw [List.pairwise_iff_getElem]
    intro i j hi hj hij
    obtain ⟨d, rfl⟩ : ∃ d, j = i + d + 1 := ⟨j - i - 1, by omega⟩
    exact key d i _ _ (List.getElem?_eq_getElem hi) (List.getElem?_eq_getElem hj)
  · rintro ⟨h1, h2, h3⟩
    simp only [boxesB, Bool.and_eq_true, List.all_eq_true, List.mem_range, decide_eq_true_eq]
    refine ⟨fun i hi => ?_, h1⟩
    cases i with
    | zero =>
      obtain ⟨x, hx⟩ := get_of_lt (l := xs) (k := 0) hi
      rw [boxAt_first hx]
      exact h2 x (List.mem_of_getElem? hx)
    | succ i =>
      obtain ⟨x, hx⟩ := get_of_lt (l := xs) (k := i) (by omega)
      obtain ⟨y, hy⟩ := get_of_lt (l := xs) (k := i + 1) hi
      rw [boxAt_next hx hy, Bool.and_eq_true]
      refine ⟨h2 y (List.mem_of_getElem? hy), ?_⟩
      rw [List.pairwise_iff_getElem] at h3
      have := h3 i (i + 1) (by omega) hi (by omega)
      rw [(List.getElem?_eq_some_iff.1 hx).2, (List.getElem?_eq_some_iff.1 hy).2] at this
      exact this
theorem boxesB_filter {xs : List TBox} (h : boxesB xs = true) (p : TBox → Bool) : boxesB (xs.filter p) = true := by
  obtain ⟨h1, h2, h3⟩ := boxesB_iff.1 h
  exact boxesB_iff.2 ⟨Nat.le_trans (List.length_filter_le _ _) h1, fun x hx => h2 x (List.mem_filter.1 hx).1, h3.filter _⟩
theorem cardsKept_again {xs : List TBox} {y : Int} (h : keptCode xs y = 0) : cardsKeptM (pulpM xs y).1 y = cardsKeptM xs y := by
  have hb : boxesB xs = true ∧ yearOk y = true := by
    unfold keptCode at h
    split at h
    · omega
    · split at h
      · omega
      · rename_i h1 h2; exact ⟨by simpa using h1, by simpa using h2⟩
  have hk : keptCode (xs.filter (keptB y)) y = 0 := by
    unfold keptCode
    rw [if_neg (by simp [boxesB_filter hb.1]), if_neg (by simp [hb.2])]
  have hp : (pulpM xs y).1 = xs.filter (keptB y) := by simp [pulpM, h]
  rw [hp]
  unfold cardsKeptM
  rw [if_pos hk, if_pos h, List.filter_filter]
  simp
theorem filter_lens (p : TBox → Bool) : ∀ l : List TBox, (l.filter p).length + (l.filter fun x => !p x).length = l.length
  | [] => rfl
  | z :: l => by
    have ih := filter_lens p l
    cases hz : p z <;> simp [hz] <;> omega
theorem pulp_lens {xs : List TBox} {y : Int} (h : keptCode xs y = 0) : (pulpM xs y).1.length + (pulpM xs y).2.length = xs.length := by
  simp only [pulpM, h, if_true]
  exact filter_lens _ _
/-! sums over places -/
def sumR (f : Nat → Int) (n : Nat) : Int := ((List.range n).map f).sum
theorem sumR_zero (f : Nat → Int) : sumR f 0 = 0 := rfl
theorem sumR_succ (f : Nat → Int) (n : Nat) : sumR f (n + 1) = sumR f n + f n := by simp [sumR, List.range_succ]
theorem sumR_le {f g : Nat → Int} : ∀ n, (∀ i, i < n → f i ≤ g i) → sumR f n ≤ sumR g n
  | 0, _ => by simp [sumR_zero]
  | n + 1, h => by
    have := sumR_le n (fun i hi => h i (by omega))
    have := h n (by omega)
    rw [sumR_succ, sumR_succ]; omega
theorem sumR_eq {f g : Nat → Int} : ∀ n, (∀ i, i < n → f i = g i) → sumR f n = sumR g n
  | 0, _ => rfl
  | n + 1, h => by rw [sumR_succ, sumR_succ, sumR_eq n (fun i hi => h i (by omega)), h n (by omega)]
theorem sumR_add (f g : Nat → Int) : ∀ n, sumR (fun i => f i + g i) n = sumR f n + sumR g n
  | 0 => rfl
  | n + 1 => by rw [sumR_succ, sumR_succ, sumR_succ, sumR_add f g n]; omega
theorem sumR_mul (c : Int) (f : Nat → Int) : ∀ n, sumR (fun i => c * f i) n = c * sumR f n
  | 0 => by simp [sumR_zero]
  | n + 1 => by rw [sumR_succ, sumR_succ, sumR_mul c f n, Int.mul_add]
theorem sumR_zeros {f : Nat → Int} (n : Nat) (h : ∀ i, i < n → f i = 0) : sumR f n = 0 := by
  have h1 := sumR_eq (g := fun _ => 0) n h
  rw [h1]
  clear h1 h
  induction n with
  | zero => rfl
  | succ n ih => rw [sumR_succ, ih]; rfl
theorem sumR_b {f : Nat → Int} {M : Int} : ∀ n, (∀ i, i < n → 0 ≤ f i ∧ f i ≤ M) → 0 ≤ sumR f n ∧ sumR f n ≤ n * M
  | 0, _ => by simp [sumR_zero]
  | n + 1, h => by
    have h1 := sumR_b n (fun i hi => h i (by omega))
    have h2 := h n (by omega)
    rw [sumR_succ, Int.natCast_add, Int.natCast_one, Int.add_mul, Int.one_mul]
    omega
def cardsOf (xs : List TBox) (i : Nat) : Int := (xs.getD i default).cards
/-- the cards of a place, where it lies on shelf s -/
def cell (xs : List TBox) (m : List Int) (s : Int) (i : Nat) : Int := if m.getD i (-1) = s then cardsOf xs i else 0
def below (xs : List TBox) (m : List Int) (s : Int) (i : Nat) : Int := if m.getD i (-1) < s then cardsOf xs i else 0
def largeI (r : Int) (xs : List TBox) (i : Nat) : Int := if r < 2 * cardsOf xs i then 1 else 0
theorem sums_all {f : Nat → Int} {m : List Int} {n : Nat} {R : Int} (h0 : ∀ i, i < n → 0 ≤ m.getD i (-1)) (hs : ∀ s : Nat, sumR (fun i => if m.getD i (-1) = (s : Int) then f i else 0) n ≤ R) :
    ∀ K : Nat, sumR (fun i => if m.getD i (-1) < (K : Int) then f i else 0) n ≤ K * R
  | 0 => by
    rw [sumR_zeros n (fun i hi => by have := h0 i hi; rw [if_neg (by omega)])]
    simp
  | K + 1 => by
    have h1 := sums_all h0 hs K
    have h2 := hs K
    have h3 : sumR (fun i => if m.getD i (-1) < ((K + 1 : Nat) : Int) then f i else 0) n = sumR (fun i => if m.getD i (-1) < (K : Int) then f i else 0) n + sumR (fun i => if m.getD i (-1) = (K : Int) then f i else 0) n := by
      rw [← sumR_add]
      refine sumR_eq n fun i hi => ?_
      generalize m.getD i (-1) = v
      by_cases e1 : v < (K : Int)
      · rw [if_pos (by omega), if_pos e1, if_neg (by omega)]; omega
      · by_cases e2 : v = (K : Int)
        · rw [if_pos (by omega), if_neg e1, if_pos e2]; omega
        · rw [if_neg (by omega), if_neg e1, if_neg e2]; omega
    rw [h3, Int.natCast_add, Int.natCast_one, Int.add_mul, Int.one_mul]
    omega
/-- no packing needs fewer shelves than told -/
theorem need_le {xs : List TBox} {m : List Int} {r : Int} (hr : 1 ≤ r) (hc : ∀ i, i < xs.length → 0 ≤ cardsOf xs i) (h0 : ∀ i, i < xs.length → 0 ≤ m.getD i (-1)) {K : Nat} (hK : ∀ i, i < xs.length → m.getD i (-1) < (K : Int))
    (hs : ∀ s : Int, sumR (cell xs m s) xs.length ≤ r) : sumR (cardsOf xs) xs.length ≤ K * r ∧ sumR (largeI r xs) xs.length ≤ K := by
  constructor
  · have h1 := sums_all (f := cardsOf xs) (n := xs.length) (R := r) h0 (fun s => hs s) K
    rw [sumR_eq xs.length (fun i hi => show (if m.getD i (-1) < (K : Int) then cardsOf xs i else 0) = cardsOf xs i from if_pos (hK i hi))] at h1
    exact h1
  · have h1 := sums_all (f := largeI r xs) (n := xs.length) (R := 1) h0 (fun s => ?_) K
    · rw [sumR_eq xs.length (fun i hi => show (if m.getD i (-1) < (K : Int) then largeI r xs i else 0) = largeI r xs i from if_pos (hK i hi))] at h1
      omega
    · have h2 := hs s
      have h3 : sumR (fun i => (r + 1) * (if m.getD i (-1) = (s : Int) then largeI r xs i else 0)) xs.length ≤ sumR (fun i => 2 * cell xs m s i) xs.length := by
        refine sumR_le _ fun i hi => ?_
        have hci := hc i hi
        unfold cell largeI
        split
        · split
          · omega
          · simp; omega
        · simp
      rw [sumR_mul, sumR_mul] at h3
      generalize sumR (fun i => if m.getD i (-1) = (s : Int) then largeI r xs i else 0) xs.length = q at h3 ⊢
      apply Classical.byContradiction
      intro hq
      have h4 : (r + 1) * 2 ≤ (r + 1) * q := Int.mul_le_mul_of_nonneg_left (by omega) (by omega)
      omega
/-! what the packing gives -/
theorem packOrder_nodup (xs : List TBox) : (packOrder xs).Nodup :=
  ((packR_swo xs).sortL (upto_nodup xs.length)).imp (fun {a c} h e => by subst e; exact (packR_swo xs).lexIrr _ h)
theorem packOrder_len (xs : List TBox) : (packOrder xs).length = xs.length := sortL_len _ _
theorem getD_set (l : List Int) (a b : Nat) (v d : Int) (hb : b < l.length) : (l.set a v).getD b d = if a = b then v else l.getD b d := by
  rw [List.getD_eq_getElem?_getD, List.getD_eq_getElem?_getD, List.getElem?_set]
  by_cases h : a = b
  · subst h; simp [hb]
  · simp [h]
theorem map_sum_eq {f g : Int → Int} : ∀ l : List Int, (∀ x ∈ l, f x = g x) → (l.map f).sum = (l.map g).sum
  | [], _ => rfl
  | x :: l, h => by
    simp only [List.map_cons, List.sum_cons]
    rw [h x (by simp), map_sum_eq l fun y hy => h y (by simp [hy])]
theorem map_sum_zero {f : Int → Int} : ∀ l : List Int, (∀ x ∈ l, f x = 0) → (l.map f).sum = 0
  | [], _ => rfl
  | x :: l, h => by
    simp only [List.map_cons, List.sum_cons]
    rw [h x (by simp), map_sum_zero l fun y hy => h y (by simp [hy])]
    rfl
theorem perm_sum {l l' : List Int} (h : l.Perm l') : l.sum = l'.sum := by
  induction h with
  | nil => rfl
  | cons x _ ih => simp [ih]
  | swap x y l => simp only [List.sum_cons]; omega
  | trans _ _ h1 h2 => rw [h1, h2]
def onShelf (xs : List TBox) (out : List Int) (s : Nat) (i : Int) : Int := if out.getD i.toNat (-1) = (s : Int) then cardsAt xs i else 0
theorem packInv (xs : List TBox) (room : Int) : ∀ m, m ≤ xs.length →
    (∀ i ∈ (packOrder xs).take m, 0 ≤ (packSt xs room m).1.getD i.toNat (-1) ∧ (packSt xs room m).1.getD i.toNat (-1) < (packSt xs room m).2.length) ∧
    (∀ s y, (packSt xs room m).2[s]? = some y → y = room - (((packOrder xs).take m).map (onShelf xs (packSt xs room m).1 s)).sum)
  | 0, _ => by simp [packSt_zero]
  | m + 1, hm => by
    obtain ⟨ih1, ih2⟩ := packInv xs room m (by omega)
    obtain ⟨i, hi⟩ := get_of_lt (l := packOrder xs) (k := m) (by rw [packOrder_len]; omega)
    obtain ⟨k, hk, rfl⟩ := sortL_mem hi
    have hl := (packSt_len xs room m).1
    have hfit := fitAt_le (cardsAt xs (k : Int)) (packSt xs room m).2
    have hnew : ∀ j ∈ (packOrder xs).take m, ∃ q : Nat, j = (q : Int) ∧ q < xs.length ∧ q ≠ k := by
      intro j hj
      obtain ⟨q, hq, rfl⟩ : ∃ q : Nat, q < xs.length ∧ j = q := upto_mem.1 ((sortL_perm _ _).subset (List.mem_of_mem_take hj))
      refine ⟨q, rfl, hq, fun e => ?_⟩
      subst e
      have hnd := packOrder_nodup xs
      have hsplit : packOrder xs = (packOrder xs).take m ++ (q : Int) :: (packOrder xs).drop (m + 1) := by
        have := drop_next hi
        rw [← this, List.take_append_drop]
      rw [hsplit, List.nodup_append] at hnd
      exact hnd.2.2 _ hj _ (by simp) rfl
    rw [packSt_succ hi]
    generalize packSt xs room m = st at *
    obtain ⟨out, left⟩ := st
    dsimp only at *
    have hlen' : left.length ≤ (shelfs room (cardsAt xs (k : Int)) left).length ∧ fitAt (cardsAt xs (k : Int)) left < (shelfs room (cardsAt xs (k : Int)) left).length := by
      unfold shelfs
      split <;> simp <;> omega
    have htk : (packOrder xs).take (m + 1) = (packOrder xs).take m ++ [(k : Int)] := by rw [List.take_add_one, hi]; rfl
    have hsame : ∀ j ∈ (packOrder xs).take m, (out.set k (fitAt (cardsAt xs (k : Int)) left : Nat)).getD j.toNat (-1) = out.getD j.toNat (-1) := by
      intro j hj
      obtain ⟨q, rfl, hq, hne⟩ := hnew j hj
      rw [Int.toNat_natCast, getD_set _ _ _ _ _ (by omega), if_neg (by omega)]
    have hself : (out.set k (fitAt (cardsAt xs (k : Int)) left : Nat)).getD k (-1) = (fitAt (cardsAt xs (k : Int)) left : Nat) := by
      rw [getD_set _ _ _ _ _ (by omega), if_pos rfl]
    unfold packStep
    simp only [Int.toNat_natCast, htk]
    constructor
    · intro j hj
      rw [List.length_set]
      rcases List.mem_append.1 hj with hj | hj
      · rw [hsame j hj]
        have := ih1 j hj
        omega
      · rw [List.mem_singleton.1 hj, Int.toNat_natCast, hself]
        omega
    · intro s y hy
      rw [List.map_append, List.sum_append]
      simp only [List.map_cons, List.map_nil, List.sum_cons, List.sum_nil]
      rw [map_sum_eq (g := onShelf xs out s) _ (fun j hj => by unfold onShelf; rw [hsame j hj])]
      have hk1 : onShelf xs (out.set k (fitAt (cardsAt xs (k : Int)) left : Nat)) s (k : Int) = if fitAt (cardsAt xs (k : Int)) left = s then cardsAt xs (k : Int) else 0 := by
        unfold onShelf
        rw [Int.toNat_natCast, hself]
        by_cases e : fitAt (cardsAt xs (k : Int)) left = s
        · rw [if_pos (by omega), if_pos e]
        · rw [if_neg (by omega), if_neg e]
      rw [hk1]
      have hold : ∀ z, s < left.length → left[s]? = some z → z = room - (((packOrder xs).take m).map (onShelf xs out s)).sum := fun z _ hz => ih2 s z hz
      have hnone : left.length ≤ s → (((packOrder xs).take m).map (onShelf xs out s)).sum = 0 := fun hge => map_sum_zero _ fun j hj => by
        have := ih1 j hj
        unfold onShelf
        rw [if_neg (by omega)]
      rw [List.getElem?_set] at hy
      by_cases e : fitAt (cardsAt xs (k : Int)) left = s
      · subst e
        rw [if_pos rfl, if_pos (by omega)] at hy
        cases hy
        rw [if_pos rfl]
        have hs : (shelfs room (cardsAt xs (k : Int)) left).getD (fitAt (cardsAt xs (k : Int)) left) 0 = room - (((packOrder xs).take m).map (onShelf xs out (fitAt (cardsAt xs (k : Int)) left))).sum := by
          rw [List.getD_eq_getElem?_getD]
          unfold shelfs
          by_cases e2 : fitAt (cardsAt xs (k : Int)) left = left.length
          · rw [if_pos e2, hnone (by omega)]
            rw [List.getElem?_append_right (by omega)]
            simp [e2]
          · rw [if_neg e2]
            obtain ⟨z, hz⟩ := get_of_lt (l := left) (k := fitAt (cardsAt xs (k : Int)) left) (by omega)
            rw [hz]
            exact ih2 _ z hz
        rw [hs]
        omega
      · rw [if_neg e] at hy
        rw [if_neg e]
        have h2 : left[s]? = some y := by
          unfold shelfs at hy
          split at hy
          · rename_i e2
            rcases Nat.lt_trichotomy s left.length with h | h | h
            · rw [List.getElem?_append_left h] at hy; exact hy
            · omega
            · rw [List.getElem?_eq_none (by simp; omega)] at hy; cases hy
          · exact hy
        have := ih2 s y h2
        omega
theorem cardsAt_nat (xs : List TBox) (i : Nat) : cardsAt xs (i : Int) = cardsOf xs i := by simp [cardsAt, cardsOf]
theorem upto_sum (f : Int → Int) : ∀ n : Nat, ((upto n).map f).sum = sumR (fun i => f (i : Int)) n
  | n => by simp [upto, sumR, List.map_map, Function.comp_def]
theorem room_zero {xs : List TBox} {r : Int} (h : (packM xs r).2 = 0) : boxesB xs = true ∧ 1 ≤ r ∧ r ≤ 1000000 ∧ (∀ x ∈ xs, 0 ≤ x.cards ∧ x.cards ≤ r) ∧ roomCode xs r = 0 ∧ (packM xs r).1 = (packSt xs r xs.length).1 := by
  have h0 : roomCode xs r = 0 := by
    unfold packM at h
    split at h
    · assumption
    · exact h
  have h1 : (packM xs r).1 = (packSt xs r xs.length).1 := by simp [packM, h0]
  have h2 := h0
  unfold roomCode at h2
  split at h2
  · omega
  · rename_i hb
    split at h2
    · omega
    · rename_i hr
      split at h2
      · omega
      · rename_i ha
        have hr' := inB_true (by simpa using hr)
        refine ⟨by simpa using hb, hr'.1, hr'.2, fun x hx => ?_, h0, h1⟩
        have hbx := boxB_b ((boxesB_mem (by simpa using hb)).2 x hx)
        have : tooBig r x = false := by
          have := List.any_eq_false.1 (by simpa using ha : xs.any (tooBig r) = false) x hx
          simpa using this
        simp [tooBig] at this
        omega
theorem pack_fits {xs : List TBox} {r : Int} (h : (packM xs r).2 = 0) :
    (packM xs r).1.length = xs.length ∧ (∀ i, i < xs.length → 0 ≤ (packM xs r).1.getD i (-1) ∧ (packM xs r).1.getD i (-1) < 40) ∧ ∀ s : Int, sumR (cell xs (packM xs r).1 s) xs.length ≤ r := by
  obtain ⟨hb, hr1, hr2, hc, h0, hm⟩ := room_zero h
  have h40 := (boxesB_mem hb).1
  rw [hm]
  obtain ⟨hl1, hl2⟩ := packSt_len xs r xs.length
  obtain ⟨i1, i2⟩ := packInv xs r xs.length (Nat.le_refl _)
  have hall : (packOrder xs).take xs.length = packOrder xs := List.take_of_length_le (by rw [packOrder_len]; omega)
  rw [hall] at i1 i2
  have hp : (packOrder xs).Perm (upto xs.length) := sortL_perm _ _
  have hidx : ∀ i, i < xs.length → 0 ≤ (packSt xs r xs.length).1.getD i (-1) ∧ (packSt xs r xs.length).1.getD i (-1) < (packSt xs r xs.length).2.length := fun i hi => by
    have := i1 (i : Int) (hp.symm.subset (upto_mem.2 ⟨i, hi, rfl⟩))
    simpa using this
  refine ⟨hl1, fun i hi => by have := hidx i hi; omega, fun s => ?_⟩
  have hsum : ∀ q : Nat, sumR (cell xs (packSt xs r xs.length).1 (q : Int)) xs.length = ((packOrder xs).map (onShelf xs (packSt xs r xs.length).1 q)).sum := fun q => by
    rw [perm_sum (hp.map _), upto_sum]
    refine sumR_eq _ fun i hi => ?_
    unfold cell onShelf
    rw [Int.toNat_natCast, cardsAt_nat]
  by_cases hs : 0 ≤ s
  · obtain ⟨q, rfl⟩ : ∃ q : Nat, s = q := ⟨s.toNat, by omega⟩
    by_cases hq : q < (packSt xs r xs.length).2.length
    · obtain ⟨y, hy⟩ := get_of_lt hq
      have h1 := i2 q y hy
      have h2 := packSt_room xs r hc xs.length y (List.mem_of_getElem? hy)
      rw [hsum]
      omega
    · rw [sumR_zeros _ (fun i hi => by
        have := hidx i hi
        unfold cell
        rw [if_neg (by omega)])]
      omega
  · rw [sumR_zeros _ (fun i hi => by
        have := hidx i hi
        unfold cell
        rw [if_neg (by omega)])]
    omega
theorem cards_sumR : ∀ xs : List TBox, (cardsL xs).sum = sumR (cardsOf xs) xs.length
  | xs => by
    have key : ∀ n, n ≤ xs.length → ((cardsL xs).take n).sum = sumR (cardsOf xs) n := by
      intro n
      induction n with
      | zero => intro _; simp [sumR_zero]
      | succ n ih =>
        intro hn
        obtain ⟨x, hx⟩ := get_of_lt (l := xs) (k := n) (by omega)
        have hc : (cardsL xs)[n]? = some x.cards := by simp [cardsL, hx]
        rw [sum_take_succ hc, ih (by omega), sumR_succ]
        simp [cardsOf, hx]
    have := key xs.length (Nat.le_refl _)
    rw [List.take_of_length_le (by simp [cardsL])] at this
    exact this
theorem large_sumR (r : Int) : ∀ xs : List TBox, (largeN r xs : Int) = sumR (largeI r xs) xs.length
  | xs => by
    have key : ∀ n, n ≤ xs.length → (largeN r (xs.take n) : Int) = sumR (largeI r xs) n := by
      intro n
      induction n with
      | zero => intro _; simp [sumR_zero, largeN]
      | succ n ih =>
        intro hn
        obtain ⟨x, hx⟩ := get_of_lt (l := xs) (k := n) (by omega)
        have h1 := ih (by omega)
        have hco : cardsOf xs n = x.cards := by simp [cardsOf, hx]
        rw [sumR_succ, ← h1, List.take_add_one, hx]
        unfold largeN largeI
        rw [hco]
        simp only [Option.toList_some, List.countP_append, List.countP_cons, List.countP_nil, decide_eq_true_eq, Int.natCast_add]
        split <;> simp
    have := key xs.length (Nat.le_refl _)
    rw [List.take_of_length_le (Nat.le_refl _)] at this
    exact this
theorem shelves_le {xs : List TBox} {r : Int} (h : (packM xs r).2 = 0) {K : Nat} (hK : ∀ i, i < xs.length → (packM xs r).1.getD i (-1) < (K : Int)) : (shelvesM xs r).1 ≤ K := by
  obtain ⟨hb, hr1, hr2, hc, h0, hm⟩ := room_zero h
  obtain ⟨h1, h2, h3⟩ := pack_fits h
  have hco : ∀ i, i < xs.length → 0 ≤ cardsOf xs i := fun i hi => by
    obtain ⟨x, hx⟩ := get_of_lt hi
    have := hc x (List.mem_of_getElem? hx)
    simp [cardsOf, hx]
    omega
  obtain ⟨q1, q2⟩ := need_le hr1 hco (fun i hi => (h2 i hi).1) hK h3
  rw [← cards_sumR] at q1
  rw [← large_sumR] at q2
  have e : (shelvesM xs r).1 = max (largeN r xs : Int) (((cardsL xs).sum + r - 1) / r) := by simp [shelvesM, h0]
  rw [e]
  have : ((cardsL xs).sum + r - 1) / r ≤ K := by
    apply Int.le_of_lt_add_one
    apply Int.ediv_lt_of_lt_mul (by omega)
    rw [Int.add_mul, Int.one_mul]
    omega
  omega
theorem pulp_ok {xs : List TBox} (h : ∀ x ∈ xs, x.ok) (y : Int) : (∀ x ∈ (pulpM xs y).1, x.ok) ∧ ∀ x ∈ (pulpM xs y).2, x.ok := by
  by_cases hk : keptCode xs y = 0
  · simp only [pulpM, hk, if_true]
    exact ⟨fun x hx => h x (List.mem_filter.1 hx).1, fun x hx => h x (List.mem_filter.1 hx).1⟩
  · simp only [pulpM, hk, if_false]
    exact ⟨fun x hx => (by simp at hx), fun x hx => (by simp at hx)⟩
end Go.M
