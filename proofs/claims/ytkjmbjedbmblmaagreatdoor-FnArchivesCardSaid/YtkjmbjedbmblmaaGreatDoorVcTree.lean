/- Contracts of functions of the given program, of the reference and of the laws: each says what a call returns, for all arguments that meet the premises that the theorem itself names. -/
import Derived.Test.YtkjmbjedbmblmaaGreatDoorVcTail
namespace Go.Vc
open Go Go.RowKit

/-- all orders of a region as a tree: 'mv' a copy that may come first without loss; 'alt' this one next, then t, or one of u -/
inductive OT where
  | leaf : OT
  | stop : OT
  | mv (i : Nat) (t : OT) : OT
  | alt (i : Nat) (t u : OT) : OT
def OT.heads : OT → List Nat
  | .alt i _ u => i :: u.heads
  | _ => []
def otOk (ops : Array Oper) : OT → Bool → Nat → Array Bool → Bool
  | .leaf, top, k, listed => top && Nat.beq k 0 && (Region.ready .any ops listed).isEmpty
  | .stop, top, _, _ => !top
  | .mv i t, top, k, listed => top && Nat.blt 0 k && mvAt ops.toList i && Region.free .any ops listed i && (Region.ready .any ops listed).contains i && otOk ops t true (k - 1) (listed.setIfInBounds i true)
  | .alt i t u, top, k, listed => (!top || (i :: u.heads) == Region.ready .any ops listed) && Nat.blt 0 k && otOk ops t true (k - 1) (listed.setIfInBounds i true) && otOk ops u false k listed
/-- the tree of a region -/
def treeAlts (f : Nat → OT) : List Nat → OT
  | [] => .stop
  | i :: l => .alt i (f i) (treeAlts f l)
def treeOf (ops : Array Oper) : Nat → Array Bool → OT
  | 0, _ => .leaf
  | k + 1, listed =>
    match (Region.ready .any ops listed).find? fun i => mvAt ops.toList i && Region.free .any ops listed i with
    | some i => .mv i (treeOf ops k (listed.setIfInBounds i true))
    | none => treeAlts (fun i => treeOf ops k (listed.setIfInBounds i true)) (Region.ready .any ops listed)
def OT.ok (ops : Array Oper) (t : OT) : Bool := Region.noSelect ops && otOk ops t true ops.size (Array.replicate ops.size false)
/-- both hold -/
@[irreducible] def Both (A B : Prop) : Prop := A ∧ B
theorem Both.mk {A B : Prop} (h : A) (k : B) : Both A B := by unfold Both; exact ⟨h, k⟩
theorem Both.one {A : Prop} (h : A) : Both A True := Both.mk h trivial
theorem Both.out {A B : Prop} (h : Both A B) : A ∧ B := by unfold Both at h; exact h

def vcAt (P : Program) (T : Tab) (n : Nat) (all : List Oper) (i : Nat) (K : Fr → World → Prop) (f : Fr) (w : World) : Prop :=
  match all[i]? with
  | some o => vcGuard all o f (fun f => vcOne P T n o f w K) (fun f => putK o.dst f undef fun f => K f w)
  | none => False
noncomputable def vcTree (P : Program) (T : Tab) (n : Nat) (all : List Oper) (t : OT) : Fr → World → (Fr → World → Prop) → Prop :=
  OT.rec (motive := fun _ => Fr → World → (Fr → World → Prop) → Prop)
    (fun f w K => K f w)
    (fun _ _ _ => True)
    (fun i _ ih f w K => vcAt P T n all i (fun f w => ih f w K) f w)
    (fun i _ _ iht ihu f w K => Both (vcAt P T n all i (fun f w => iht f w K) f w) (ihu f w K)) t

theorem vcAt_sound {P : Program} {T : Tab} (hT : T.fok P = true) {n : Nat} {ops : Array Oper} (hok : okOps n ops = true) {i : Nat} {K : Fr → World → Prop} {f : Fr} {w : World} (h : vcAt P T n ops.toList i K f w)
    {Q : Exit → Act → World → Prop} {L : Act → World → Prop} (hL : ∀ f w, K f w → L (act n f) w) : wpOp P ops Q i L (act n f) w := by
  unfold vcAt at h
  unfold wpOp
  split at h
  · rename_i o ho
    have ho' : ops[i]? = some o := by simpa using ho
    have hoki : okOper n ops o = true := by
      unfold okOps at hok
      rw [List.all_eq_true] at hok
      exact hok _ (List.mem_of_getElem? ho)
    have hg := vcGuard_sound hoki h
    simp only [ho']
    split
    · rename_i hw
      rw [if_pos hw] at hg
      exact .inl (vcOne_sound hT hoki hg hL)
    · rename_i hw
      rw [if_neg hw, putK_iff] at hg
      rw [act_puto]
      exact hL _ _ hg
  · exact h.elim

theorem vcTree_sound {P : Program} {T : Tab} (hT : T.fok P = true) {n : Nat} {ops : Array Oper} (hok : okOps n ops = true) (hs : Region.noSelect ops = true) {K : Fr → World → Prop} {Q : Exit → Act → World → Prop}
    (hP : ∀ c a w, ¬ Q (.panic c) a w) (hQ : ∀ f w, K f w → Q .normal (act n f) w) : ∀ (t : OT) (top : Bool) (k : Nat) (listed : Array Bool) (f : Fr) (w : World), otOk ops t top k listed = true → vcTree P T n ops.toList t f w K →
      (top = true → wpAny P .any ops Q k listed (act n f) w) ∧ (top = false → ∀ i ∈ t.heads, wpOp P ops Q i (wpAny P .any ops Q (k - 1) (listed.setIfInBounds i true)) (act n f) w)
  | .leaf, top, k, listed, f, w, hB, h => by
    simp only [otOk, Bool.and_eq_true, List.isEmpty_iff] at hB
    obtain ⟨⟨rfl, hk⟩, hr⟩ := hB
    obtain rfl := Nat.eq_of_beq_eq_true hk
    exact ⟨fun _ => wpAny_done hr (hQ _ _ h) _, fun h => by cases h⟩
  | .stop, top, k, listed, f, w, hB, h => by
    exact ⟨fun h => (by subst h; cases hB), fun _ i hi => (by cases hi)⟩
  | .mv i t, top, k, listed, f, w, hB, h => by
    simp only [otOk, Bool.and_eq_true, Nat.blt_eq] at hB
    obtain ⟨⟨⟨⟨⟨rfl, hk⟩, hmv⟩, hf⟩, hr⟩, hB'⟩ := hB
    refine ⟨fun _ => ?_, fun h => by cases h⟩
    obtain ⟨k, rfl⟩ : ∃ m, k = m + 1 := ⟨k - 1, by omega⟩
    have hmem : i ∈ Region.ready .any ops listed := by simpa using hr
    obtain ⟨_, o, h0, _⟩ := mem_ready.1 hmem
    have h0' : ops.toList[i]? = some o := by simpa using h0
    have hmo : isMv o = true := by
      unfold mvAt at hmv
      rw [h0'] at hmv
      exact hmv
    obtain ⟨x, hx, hg⟩ := isMv_spec hmo
    have hokx : okOper n ops o = true := by
      unfold okOps at hok
      rw [List.all_eq_true] at hok
      exact hok _ (List.mem_of_getElem? h0')
    have hevx : (act n f).eval x = ev f x := by
      simp only [okOper, Bool.and_eq_true, List.all_eq_true] at hokx
      exact ev_act (hokx.1 x (by simp [hx, Op.operands]))
    have hy : Yields P ops o (ev f x) (act n f) := .inl ⟨by simp [Region.wanted, hg], fun w => by
      unfold execOp
      simp only [hx, hevx]
      rfl⟩
    refine wpAny_take h0 hs hf hr (fun c a w hq => (hP _ _ _ hq).elim) hy ?_
    rw [act_puto]
    have h' : vcAt P T n ops.toList i (fun f w => vcTree P T n ops.toList t f w K) f w := h
    have h2 : vcTree P T n ops.toList t (put f o.dst (ev f x)) w K := by
      unfold vcAt at h'
      rw [h0'] at h'
      simp only [vcGuard, hg, vcOne, hx, pureOp] at h'
      rw [force_iff, putK_iff] at h'
      exact h'
    exact (vcTree_sound hT hok hs hP hQ t true k _ _ w hB' h2).1 rfl
  | .alt i t u, top, k, listed, f, w, hB, h => by
    simp only [otOk, Bool.and_eq_true, Nat.blt_eq] at hB
    obtain ⟨⟨⟨htop, hk⟩, hB1⟩, hB2⟩ := hB
    obtain ⟨k, rfl⟩ : ∃ m, k = m + 1 := ⟨k - 1, by omega⟩
    have h' : Both (vcAt P T n ops.toList i (fun f w => vcTree P T n ops.toList t f w K) f w) (vcTree P T n ops.toList u f w K) := h
    obtain ⟨ha, hb⟩ := h'.out
    have hhead : wpOp P ops Q i (wpAny P .any ops Q (k + 1 - 1) (listed.setIfInBounds i true)) (act n f) w :=
      vcAt_sound hT hok ha fun f w hk => (vcTree_sound hT hok hs hP hQ t true _ _ f w hB1 hk).1 rfl
    have hrest := (vcTree_sound hT hok hs hP hQ u false (k + 1) listed f w hB2 hb).2 rfl
    have hall : ∀ j ∈ (OT.alt i t u).heads, wpOp P ops Q j (wpAny P .any ops Q (k + 1 - 1) (listed.setIfInBounds j true)) (act n f) w := by
      intro j hj
      simp only [OT.heads, List.mem_cons] at hj
      rcases hj with rfl | hj
      · exact hhead
      · exact hrest j hj
    refine ⟨fun ht => ?_, fun _ => hall⟩
    subst ht
    simp only [Bool.not_true, Bool.false_or, beq_iff_eq] at htop
    exact wpAny_all htop.symm (by simp) hall

/-- A REGION THAT DRAWS ITS ORDER: each order is walked -/
theorem DrawK.tree {P : Program} {T : Tab} (hT : T.fok P = true) (hm : P.follows .mixedOrders = true) {n : Nat} {ops : Array Oper} (t : OT) (hok : okOps n ops = true) (hB : t.ok ops = true) {f : Fr} {w : World} {K : Fr → World → Prop}
    (h : ∀ w', Ext w w' → vcTree P T n ops.toList t f w' K) : DrawK P n ops f w K := by
  unfold DrawK
  intro id
  simp only [OT.ok, Bool.and_eq_true] at hB
  refine wp_region_any hm ?_
  exact (vcTree_sound hT hok hB.1 (fun c a w hq => hq.elim) (fun f w hk => ⟨f, rfl, hk⟩) t true _ _ f _ hB.2 (h { w with drawn := w.drawn + 1 } ⟨rfl, rfl, rfl, Nat.le_refl _, fun _ _ => rfl⟩)).1 rfl
end Go.Vc
