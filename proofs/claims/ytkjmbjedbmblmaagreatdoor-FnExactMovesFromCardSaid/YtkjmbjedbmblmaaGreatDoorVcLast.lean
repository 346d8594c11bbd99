/- A region that draws its order, whose last operation may write to old memory, walked by a plan; with the premises that the theorem names. -/
import Derived.Test.YtkjmbjedbmblmaaGreatDoorVcHeld
namespace Go.Vc
open Go Go.RowKit

/-! ### the same, where the last operation, for which all others come first, may write to old memory -/
section
variable {P : Program} {ops : Array Oper} {Q : Exit → Act → World → Prop} {md : Region.Mode} {S : World → Prop} {L : Nat}
/-- whatever order is picked; S holds behind each operation but number L -/
def wpAnyE (P : Program) (md : Region.Mode) (ops : Array Oper) (L : Nat) (Q : Exit → Act → World → Prop) (S : World → Prop) : Nat → Array Bool → Act → World → Prop
  | 0, listed, a, w => Region.ready md ops listed = [] ∧ Q .normal a w
  | k + 1, listed, a, w =>
    (Region.ready md ops listed = [] → Q .normal a w) ∧
    ∀ i ∈ Region.ready md ops listed, wpOp P ops Q i (fun a' w' => (i ≠ L → S w') ∧ wpAnyE P md ops L Q S k (listed.setIfInBounds i true) a' w') a w
theorem wpAnyE_any : ∀ (k : Nat) (listed : Array Bool) (a : Act) (w : World), wpAnyE P md ops L Q S k listed a w → wpAny P md ops Q k listed a w
  | 0, _, _, _, h => h
  | k + 1, _, _, _, h => ⟨h.1, fun i hi => wpOp_mono (fun a' w' h' => wpAnyE_any k _ a' w' h'.2) (h.2 i hi)⟩
/-- all others come ahead of number L -/
def Lasts (md : Region.Mode) (ops : Array Oper) (L : Nat) : Prop := ∀ o, ops[L]? = some o → ∀ m, m < ops.size → m ≠ L → ∃ e ∈ o.after, Region.binds md e = true ∧ e.on = m
theorem wpAnyE_first (hL : Lasts md ops L) {i : Nat} {oi : Oper} {v : Value} (hi : ops[i]? = some oi) (hsel : ∀ (j : Nat) (o : Oper) cs b, ops[j]? = some o → o.op ≠ .select cs b)
    (hQ : ∀ c a w, Q (.panic c) (a.put oi.dst v) w → Q (.panic c) a w) :
    ∀ (k : Nat) (listed : Array Bool) (a : Act) (w : World),
      (∀ j oj, ops[j]? = some oj → j ≠ i → listed.getD j true = false → (∀ e ∈ oj.after, Region.binds md e = true → e.on ≠ i) → oi.apart ops oj = true) →
      i ∈ Region.ready md ops listed → YieldsIf P ops S oi v a → S w →
      wpAnyE P md ops L Q S k (listed.setIfInBounds i true) (a.put oi.dst v) w → wpAnyE P md ops L Q S (k + 1) listed a w := by
  intro k
  induction k with
  | zero =>
    intro listed a w _ hr hy hS H
    refine ⟨fun h => (by rw [h] at hr; cases hr), fun j hj => ?_⟩
    rcases Decidable.em (j = i) with rfl | hji
    · exact hy.wpOp hi hS ⟨fun _ => hS, H⟩
    · have := ready_mono hj hji
      rw [H.1] at this
      cases this
  | succ k ih =>
    intro listed a w hfree hr hy hS H
    refine ⟨fun h => (by rw [h] at hr; cases hr), fun j hj => ?_⟩
    rcases Decidable.em (j = i) with rfl | hji
    · exact hy.wpOp hi hS ⟨fun _ => hS, H⟩
    · obtain ⟨hjun, oj, hoj, hall⟩ := mem_ready.1 hj
      have hnot : ∀ e ∈ oj.after, Region.binds md e = true → e.on ≠ i := fun e he hb heq => by
        have h1 := hall e he hb
        have h0 := (mem_ready.1 hr).1
        rw [heq] at h1
        rcases Nat.lt_or_ge i listed.size with h' | h'
        · simp [h'] at h0 h1; rw [h0] at h1; cases h1
        · simp [Array.getElem?_eq_none h'] at h1
      have hjL : j ≠ L := fun e => by
        subst e
        obtain ⟨e, he, hb, hon⟩ := hL oj hoj i (Array.getElem?_eq_some_iff.1 hi).1 (Ne.symm hji)
        exact hnot e he hb hon
      have h2 := wpOp_putIf hoj (hfree j oj hoj hji hjun hnot) (fun cs b => hsel i oi cs b hi) (fun cs b => hsel j oj cs b hoj) hQ hy (H.2 j (ready_mono hj hji))
      refine wpOp_mono (fun a' w' h3 => ?_) h2
      have hS' : S w' := h3.2.1 hjL
      refine ⟨fun _ => hS', ih _ a' w' (fun k ok hk hki hun hno => ?_) (ready_mono hr (Ne.symm hji)) h3.1 hS' ?_⟩
      · refine hfree k ok hk hki ?_ hno
        rcases Decidable.em (j = k) with rfl | hjk
        · exact hjun
        · rw [getD_set_ne true hjk] at hun; exact hun
      · rw [Array.setIfInBounds_comm _ _ hji]
        exact h3.2.2
theorem wpAnyE_take (hL : Lasts md ops L) {i : Nat} {oi : Oper} {v : Value} {k : Nat} {listed : Array Bool} {a : Act} {w : World} (hi : ops[i]? = some oi)
    (hs : Region.noSelect ops = true) (hf : Region.free md ops listed i = true) (hr : (Region.ready md ops listed).contains i = true)
    (hQ : ∀ c a w, Q (.panic c) (a.put oi.dst v) w → Q (.panic c) a w) (hy : YieldsIf P ops S oi v a) (hS : S w)
    (h : wpAnyE P md ops L Q S k (listed.setIfInBounds i true) (a.put oi.dst v) w) : wpAnyE P md ops L Q S (k + 1) listed a w :=
  wpAnyE_first hL hi (Region.noSelect_spec hs) hQ k listed a w (Region.free_spec hi hf) (by simpa using hr) hy hS h
theorem wpAnyE_all {rs : List Nat} {k : Nat} {listed : Array Bool} {a : Act} {w : World} (hr : Region.ready md ops listed = rs) (hne : rs ≠ [])
    (h : ∀ i ∈ rs, wpOp P ops Q i (fun a' w' => (i ≠ L → S w') ∧ wpAnyE P md ops L Q S k (listed.setIfInBounds i true) a' w') a w) : wpAnyE P md ops L Q S (k + 1) listed a w :=
  ⟨fun h0 => absurd (hr ▸ h0) hne, hr ▸ h⟩
theorem wpAnyE_done {listed : Array Bool} {a : Act} {w : World} (hr : Region.ready md ops listed = []) (h : Q .normal a w) :
    ∀ k, wpAnyE P md ops L Q S k listed a w
  | 0 => ⟨hr, h⟩
  | _ + 1 => ⟨fun _ => h, by rw [hr]; simp⟩
end
def lastOr {α : Type} : List α → Prop → Prop → Prop
  | [], _, X => X
  | _ :: _, E, X => E ∧ X
noncomputable def hOpsS (P : Program) (T : Tab) (n : Nat) (w0 : World) (all : List Oper) (os : List (Oper × Bool)) : Fr → World → (Fr → World → Prop) → Prop :=
  List.rec (motive := fun _ => Fr → World → (Fr → World → Prop) → Prop) (fun f w K => K f w)
    (fun o os ih f w K => vcGuard all o.1 f
      (fun f => match (!o.2 || isPure o.1.op) with
        | true => dOne P T w0 o.1 f fun f => ih f w K
        | false => vcOne P T n o.1 f w fun f w' => lastOr os (Ext w0 w') (ih f w' K))
      (fun f => putK o.1.dst f undef fun f => ih f w K)) os
theorem hOpsS_cons (P : Program) (T : Tab) (n : Nat) (w0 : World) (all : List Oper) (o : Oper × Bool) (os : List (Oper × Bool)) (f : Fr) (w : World) (K : Fr → World → Prop) :
    hOpsS P T n w0 all (o :: os) f w K = vcGuard all o.1 f
      (fun f => match (!o.2 || isPure o.1.op) with
        | true => dOne P T w0 o.1 f fun f => hOpsS P T n w0 all os f w K
        | false => vcOne P T n o.1 f w fun f w' => lastOr os (Ext w0 w') (hOpsS P T n w0 all os f w' K))
      (fun f => putK o.1.dst f undef fun f => hOpsS P T n w0 all os f w K) := rfl
theorem hOpsS_sound {L : Nat} {P : Program} {T : Tab} (hT : T.fok P = true) {n : Nat} {ops : Array Oper} (hok : okOps n ops = true) (hs : Region.noSelect ops = true) (hL : Lasts .any ops L) {w0 : World} {Q : Exit → Act → World → Prop} (hQp : ∀ c a w, ¬ Q (.panic c) a w) {K : Fr → World → Prop} (hQ : ∀ f w, K f w → Q .normal (act n f) w) :
    ∀ (plan : List (Nat × Bool)) (listed : Array Bool) (f : Fr) (w : World), planB ops plan listed = true → (∀ x, plan.getLast? = some x → x.1 = L) → Ext w0 w → hOpsS P T n w0 ops.toList (selP ops.toList plan) f w K →
      wpAnyE P .any ops L Q (fun w' => Ext w0 w') plan.length listed (act n f) w
  | [], listed, f, w, hB, _, _, h => by
    simp only [planB, List.isEmpty_iff] at hB
    exact wpAnyE_done hB (hQ f w h) _
  | (i, s) :: l, listed, f, w, hB, hlast, hw, h => by
    simp only [planB, Bool.and_eq_true] at hB
    obtain ⟨h1, hB'⟩ := hB
    have hrd : i ∈ Region.ready .any ops listed := by
      cases s
      · simp only [Bool.and_eq_true] at h1; simpa using h1.1.1
      · simp only [beq_iff_eq] at h1; rw [h1]; simp
    obtain ⟨_, o, h0, _⟩ := mem_ready.1 hrd
    have h0' : ops.toList[i]? = some o := by simpa using h0
    have hoki : okOper n ops o = true := by
      unfold okOps at hok
      rw [List.all_eq_true] at hok
      exact hok _ (List.mem_of_getElem? h0')
    have hsel : selP ops.toList ((i, s) :: l) = (o, s) :: selP ops.toList l := by
      unfold selP
      rw [List.filterMap_cons_some (b := (o, s)) (by simp [h0'])]
    rw [hsel, hOpsS_cons] at h
    have hg := vcGuard_sound hoki h
    have hlast' : ∀ x, l.getLast? = some x → x.1 = L := fun x hx => hlast x (by
      cases l with
      | nil => simp at hx
      | cons y l' => rw [List.getLast?_cons_cons]; exact hx)
    have ih := fun (f : Fr) (w : World) (hw : Ext w0 w) (h : hOpsS P T n w0 ops.toList (selP ops.toList l) f w K) => hOpsS_sound hT hok hs hL hQp hQ l (listed.setIfInBounds i true) f w hB' hlast' hw h
    -- by the value in every world that follows
    have byVal : ∀ v, (Region.wanted o (yielded ops (act n f).tmps) = true → ∀ w', Ext w0 w' → (execOp (act n f).eval o).run P w' = .ok (.value v) w') → (Region.wanted o (yielded ops (act n f).tmps) = false → v = undef) →
        hOpsS P T n w0 ops.toList (selP ops.toList l) (put f o.dst v) w K → wpOp P ops Q i (fun a' w' => (i ≠ L → Ext w0 w') ∧ wpAnyE P .any ops L Q (fun w' => Ext w0 w') l.length (listed.setIfInBounds i true) a' w') (act n f) w := by
      intro v hv hv2 hk
      have hy : YieldsIf P ops (fun w' => Ext w0 w') o v (act n f) := by
        cases hwn : Region.wanted o (yielded ops (act n f).tmps) with
        | true => exact .inl ⟨hwn, hv hwn⟩
        | false => exact .inr ⟨hwn, hv2 hwn⟩
      refine hy.wpOp h0 hw ⟨fun _ => hw, ?_⟩
      rw [act_puto]
      exact ih _ _ hw hk
    cases s with
    | false =>
      simp only [Bool.and_eq_true, h0, Bool.not_eq_true'] at h1
      obtain ⟨⟨hr, hf⟩, hnc⟩ := h1
      have take : ∀ v, (Region.wanted o (yielded ops (act n f).tmps) = true → ∀ w', Ext w0 w' → (execOp (act n f).eval o).run P w' = .ok (.value v) w') → (Region.wanted o (yielded ops (act n f).tmps) = false → v = undef) →
          hOpsS P T n w0 ops.toList (selP ops.toList l) (put f o.dst v) w K → wpAnyE P .any ops L Q (fun w' => Ext w0 w') (l.length + 1) listed (act n f) w := by
        intro v hv hv2 hk
        have hy : YieldsIf P ops (fun w' => Ext w0 w') o v (act n f) := by
          cases hwn : Region.wanted o (yielded ops (act n f).tmps) with
          | true => exact .inl ⟨hwn, hv hwn⟩
          | false => exact .inr ⟨hwn, hv2 hwn⟩
        refine wpAnyE_take hL h0 hs hf hr (fun c a w hq => (hQp _ _ _ hq).elim) hy hw ?_
        rw [act_puto]
        exact ih _ _ hw hk
      split at hg
      · rename_i hwn
        simp only [Bool.not_false, Bool.true_or] at hg
        obtain ⟨v, hv, hk⟩ := dOne_yields hT hoki hnc hg
        exact take v (fun _ => hv) (fun hf => by rw [hwn] at hf; cases hf) hk
      · rename_i hwn
        rw [putK_iff] at hg
        exact take undef (fun ht => absurd ht hwn) (fun _ => rfl) hg
    | true =>
      simp only [beq_iff_eq] at h1
      refine wpAnyE_all h1 (by simp) fun j hj => ?_
      simp only [List.mem_singleton] at hj
      subst hj
      split at hg
      · rename_i hwn
        simp only [Bool.not_true, Bool.false_or] at hg
        cases hp : isPure o.op with
        | true =>
          rw [hp] at hg
          obtain ⟨v, hv, hk⟩ := dOne_yields hT hoki (isPure_notCall hp) hg
          exact byVal v (fun _ => hv) (fun hf => by rw [hwn] at hf; cases hf) hk
        | false =>
          rw [hp] at hg
          unfold wpOp
          simp only [h0, hwn, if_true]
          exact .inl (vcOne_sound hT hoki hg fun f w hk => by
            cases l with
            | nil =>
              simp only [planB, List.isEmpty_iff] at hB'
              exact ⟨fun hne => absurd (hlast (j, true) rfl) hne, wpAnyE_done hB' (hQ f w hk) _⟩
            | cons y l' =>
              obtain ⟨j2, s2⟩ := y
              have hrd2 : j2 ∈ Region.ready .any ops (listed.setIfInBounds j true) := by
                simp only [planB, Bool.and_eq_true] at hB'
                cases s2
                · simp only [Bool.and_eq_true] at hB'; simpa using hB'.1.1.1
                · simp only [beq_iff_eq] at hB'; rw [hB'.1]; simp
              obtain ⟨_, o2, h02, _⟩ := mem_ready.1 hrd2
              have hsel2 : selP ops.toList ((j2, s2) :: l') = (o2, s2) :: selP ops.toList l' := by
                unfold selP
                rw [List.filterMap_cons_some (b := (o2, s2)) (by simp [h02])]
              rw [hsel2] at hk
              have hk' : Ext w0 w ∧ hOpsS P T n w0 ops.toList ((o2, s2) :: selP ops.toList l') f w K := hk
              rw [← hsel2] at hk'
              exact ⟨fun _ => hk'.1, ih _ _ hk'.1 hk'.2⟩)
      · rename_i hwn
        rw [putK_iff] at hg
        exact byVal undef (fun ht => absurd ht hwn) (fun _ => rfl) hg

def lastsB (ops : Array Oper) : Bool := (List.range (ops.size - 1)).all fun m => edgeB ops m (ops.size - 1)
theorem lastsB_spec {ops : Array Oper} (h : lastsB ops = true) : Lasts .any ops (ops.size - 1) := by
  intro o ho m hm hne
  unfold lastsB at h
  rw [List.all_eq_true] at h
  obtain ⟨o', ho', e, he, hb, hon⟩ := edge_spec (h m (List.mem_range.2 (by omega)))
  rw [ho] at ho'
  cases ho'
  exact ⟨e, he, hb, hon⟩
/-- A REGION THAT DRAWS ITS ORDER, BY A PLAN: its last operation, for which all others come first, may write to old memory -/
theorem DrawK.heldS {P : Program} {T : Tab} (hT : T.fok P = true) (hm : P.follows .mixedOrders = true) {n : Nat} {ops : Array Oper} (plan : List (Nat × Bool)) (hok : okOps n ops = true) (hB : (heldB ops plan && lastsB ops && (plan.getLast?.all fun x => Nat.beq x.1 (ops.size - 1))) = true) {f : Fr} {w : World} {K : Fr → World → Prop}
    (h : ∀ w1, Ext w w1 → hOpsS P T n w ops.toList (selP ops.toList plan) f w1 K) : DrawK P n ops f w K := by
  unfold DrawK
  intro id
  simp only [heldB, Bool.and_eq_true] at hB
  obtain ⟨⟨⟨⟨hs, hl⟩, hB⟩, hL⟩, hla⟩ := hB
  refine wp_region_any hm (wpAnyE_any (L := ops.size - 1) (S := fun w' => Ext w w') _ _ _ _ ?_)
  have e1 : Ext w { w with drawn := w.drawn + 1 } := ⟨rfl, rfl, rfl, Nat.le_refl _, fun _ _ => rfl⟩
  have := hOpsS_sound hT hok hs (lastsB_spec hL) (Q := lift n K (fun _ _ _ => False) (fun _ _ => False)) (fun c a w hq => hq.elim) (fun f w hk => ⟨f, rfl, hk⟩) plan _ f _ hB (fun x hx => by
    rw [hx] at hla
    exact Nat.eq_of_beq_eq_true (by simpa using hla)) e1 (h _ e1)
  rw [Nat.eq_of_beq_eq_true hl] at this
  exact this
end Go.Vc
