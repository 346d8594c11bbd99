/- A region that draws its order, walked by a plan; with the premises that the theorem names. -/
import Derived.Test.YtkjmbjedbmblmaaGreatDoorVcTail
import Derived.OrdersHeld
namespace Go.Vc
open Go Go.RowKit

/-! ### regions that draw their order, walked by a plan: an operation that is alone to come up is carried out; one that gives one value in every world that follows may be taken first -/
/-- an operation whose value hangs on the frame alone -/
def isPure : Op → Bool
  | .move _ | .assign _ | .pick .. | .extract .. | .unOp .not _ _ | .makeFunc .. | .fieldAddr .. | .nilCheck _ => true
  | .binOp op _ _ _ _ => match op with
    | .eql | .neq | .lss | .leq | .gtr | .geq => true
    | _ => false
  | _ => false
def isCallV : Op → Bool
  | .call { callee := .value _, .. } => true
  | _ => false
def planB (ops : Array Oper) : List (Nat × Bool) → Array Bool → Bool
  | [], listed => (Region.ready .any ops listed).isEmpty
  | (i, s) :: l, listed => (match s with
      | true => Region.ready .any ops listed == [i]
      | false => (Region.ready .any ops listed).contains i && Region.free .any ops listed i && (match ops[i]? with | some o => !isCallV o.op | none => false)) && planB ops l (listed.setIfInBounds i true)
def heldB (ops : Array Oper) (plan : List (Nat × Bool)) : Bool := Region.noSelect ops && Nat.beq plan.length ops.size && planB ops plan (Array.replicate ops.size false)
/-- a plan, where there is one -/
def planOf (ops : Array Oper) : Nat → Array Bool → List (Nat × Bool)
  | 0, _ => []
  | fuel + 1, listed =>
    let r := Region.ready .any ops listed
    match r with
    | [] => []
    | [i] => (i, true) :: planOf ops fuel (listed.setIfInBounds i true)
    | _ => match r.find? (fun i => Region.free .any ops listed i && (match ops[i]? with
        | some o => (match o.op with
          | .call { callee := .builtin .len, .. } | .load .. | .binOp .. | .unOp .. | .convert .. | .indexAddr .. | .index .. | .slice .. | .build .. | .move _ | .assign _ | .pick .. | .extract .. | .makeFunc .. | .fieldAddr .. | .nilCheck _ => true
          | _ => false)
        | none => false)) with
      | some i => (i, false) :: planOf ops fuel (listed.setIfInBounds i true)
      | none => []

noncomputable def hOps (P : Program) (T : Tab) (n : Nat) (w0 : World) (all : List Oper) (os : List (Oper × Bool)) : Fr → World → (Fr → World → Prop) → Prop :=
  List.rec (motive := fun _ => Fr → World → (Fr → World → Prop) → Prop) (fun f w K => K f w)
    (fun o _ ih f w K => vcGuard all o.1 f
      (fun f => match (!o.2 || isPure o.1.op) with
        | true => dOne P T w0 o.1 f fun f => ih f w K
        | false => vcOne P T n o.1 f w fun f w' => Ext w0 w' ∧ ih f w' K)
      (fun f => putK o.1.dst f undef fun f => ih f w K)) os
theorem hOps_cons (P : Program) (T : Tab) (n : Nat) (w0 : World) (all : List Oper) (o : Oper × Bool) (os : List (Oper × Bool)) (f : Fr) (w : World) (K : Fr → World → Prop) :
    hOps P T n w0 all (o :: os) f w K = vcGuard all o.1 f
      (fun f => match (!o.2 || isPure o.1.op) with
        | true => dOne P T w0 o.1 f fun f => hOps P T n w0 all os f w K
        | false => vcOne P T n o.1 f w fun f w' => Ext w0 w' ∧ hOps P T n w0 all os f w' K)
      (fun f => putK o.1.dst f undef fun f => hOps P T n w0 all os f w K) := rfl
def selP (ops : List Oper) (l : List (Nat × Bool)) : List (Oper × Bool) := l.filterMap fun i => (ops[i.1]?).map fun o => (o, i.2)

theorem dOne_yields {P : Program} {T : Tab} (hT : T.fok P = true) {n : Nat} {all : Array Oper} {o : Oper} {f : Fr} {w : World} {K : Fr → Prop} (hok : okOper n all o = true) (hnc : isCallV o.op = false)
    (h : dOne P T w o f K) : ∃ v, (∀ w', Ext w w' → (execOp (act n f).eval o).run P w' = .ok (.value v) w') ∧ K (put f o.dst v) := by
  simp only [okOper, Bool.and_eq_true] at hok
  have hok := hok.1
  have hin := hok
  rw [List.all_eq_true] at hin
  unfold dOne at h
  split at h
  · rename_i x as ats ho
    rw [ho] at hnc
    simp [isCallV] at hnc
  · rename_i t x ho
    have hx : (act n f).eval x = ev f x := ev_act (hin x (by simp [ho, Op.operands]))
    unfold DSemK at h
    obtain ⟨v, hr, hk⟩ := h
    rw [putK_iff] at hk
    refine ⟨v, fun w' hw' => ?_, hk⟩
    have hr := hr w' hw'
    unfold execOp
    simp only [ho, hx]
    simp [hr]
  · rename_i t x y ho
    have hx : (act n f).eval x = ev f x := ev_act (hin x (by simp [ho, Op.operands]))
    have hy : (act n f).eval y = ev f y := ev_act (hin y (by simp [ho, Op.operands]))
    unfold DSemK at h
    obtain ⟨v, hr, hk⟩ := h
    rw [putK_iff] at hk
    refine ⟨v, fun w' hw' => ?_, hk⟩
    have hr := hr w' hw'
    unfold execOp
    simp only [ho, hx, hy]
    simp [hr]
  · rename_i t x y ho
    have hx : (act n f).eval x = ev f x := ev_act (hin x (by simp [ho, Op.operands]))
    have hy : (act n f).eval y = ev f y := ev_act (hin y (by simp [ho, Op.operands]))
    unfold DSemK at h
    obtain ⟨v, hr, hk⟩ := h
    rw [putK_iff] at hk
    refine ⟨v, fun w' hw' => ?_, hk⟩
    have hr := hr w' hw'
    unfold execOp
    simp only [ho, hx, hy]
    simp [hr]
  · split at h
    · rename_i v hv
      rw [force_iff, putK_iff] at h
      exact ⟨v, fun w' _ => pureOp_run hT hok hv w', h⟩
    · split at h
      · rename_i op t x y yt ho
        have hx : (act n f).eval x = ev f x := ev_act (hin x (by simp [ho, Op.operands]))
        have hy : (act n f).eval y = ev f y := ev_act (hin y (by simp [ho, Op.operands]))
        unfold DSemK at h
        obtain ⟨v, hr, hk⟩ := h
        rw [putK_iff] at hk
        refine ⟨v, fun w' hw' => ?_, hk⟩
        have hr := hr w' hw'
        unfold execOp
        simp only [ho, hx, hy]
        unfold arith at hr
        simp only [Sem.run_bind] at hr ⊢
        rw [hr]; simp
      · rename_i op t x ho
        have hx : (act n f).eval x = ev f x := ev_act (hin x (by simp [ho, Op.operands]))
        unfold DSemK at h
        obtain ⟨v, hr, hk⟩ := h
        rw [putK_iff] at hk
        refine ⟨v, fun w' hw' => ?_, hk⟩
        have hr := hr w' hw'
        unfold execOp
        simp only [ho, hx]
        simp [hr]
      · rename_i s t x ho
        have hx : (act n f).eval x = ev f x := ev_act (hin x (by simp [ho, Op.operands]))
        unfold DSemK at h
        obtain ⟨v, hr, hk⟩ := h
        rw [putK_iff] at hk
        refine ⟨v, fun w' hw' => ?_, hk⟩
        have hr := hr w' hw'
        unfold execOp
        simp only [ho, hx]
        simp [hr]
      · rename_i t x lo hi mx ho
        have hx : (act n f).eval x = ev f x := ev_act (hin x (by simp [ho, Op.operands]))
        have hlo : lo.map (act n f).eval = lo.map (ev f) := by
          cases lo with
          | none => rfl
          | some y => simp only [Option.map_some]; rw [ev_act (hin y (by simp [ho, Op.operands]))]
        have hhi : hi.map (act n f).eval = hi.map (ev f) := by
          cases hi with
          | none => rfl
          | some y => simp only [Option.map_some]; rw [ev_act (hin y (by simp [ho, Op.operands]))]
        have hmx : mx.map (act n f).eval = mx.map (ev f) := by
          cases mx with
          | none => rfl
          | some y => simp only [Option.map_some]; rw [ev_act (hin y (by simp [ho, Op.operands]))]
        unfold DSemK at h
        obtain ⟨v, hr, hk⟩ := h
        rw [putK_iff] at hk
        refine ⟨v, fun w' hw' => ?_, hk⟩
        have hr := hr w' hw'
        unfold execOp
        simp only [ho, hx, hlo, hhi, hmx]
        simp [hr]
      · rename_i t ps ho
        have hps : (ps.map fun p : Nat × Operand => (p.1, (act n f).eval p.2)) = ps.map fun p => (p.1, ev f p.2) := List.map_congr_left fun p hp => by
          rw [ev_act (hin p.2 (by simp [ho, Op.operands]; exact ⟨p.1, hp⟩))]
        unfold DSemK at h
        obtain ⟨v, hr, hk⟩ := h
        rw [putK_iff] at hk
        refine ⟨v, fun w' hw' => ?_, hk⟩
        have hr := hr w' hw'
        unfold execOp
        simp only [ho]
        simp [hps, hr]
      · exact h.elim

theorem isPure_notCall {o : Op} (h : isPure o = true) : isCallV o = false := by
  unfold isCallV
  split
  · simp [isPure] at h
  · rfl

theorem hOps_sound {P : Program} {T : Tab} (hT : T.fok P = true) {n : Nat} {ops : Array Oper} (hok : okOps n ops = true) (hs : Region.noSelect ops = true) {w0 : World} {Q : Exit → Act → World → Prop} (hQp : ∀ c a w, ¬ Q (.panic c) a w) {K : Fr → World → Prop} (hQ : ∀ f w, K f w → Q .normal (act n f) w) :
    ∀ (plan : List (Nat × Bool)) (listed : Array Bool) (f : Fr) (w : World), planB ops plan listed = true → Ext w0 w → hOps P T n w0 ops.toList (selP ops.toList plan) f w K →
      wpAnyH P .any ops Q (fun w' => Ext w0 w') plan.length listed (act n f) w
  | [], listed, f, w, hB, _, h => by
    simp only [planB, List.isEmpty_iff] at hB
    exact wpAnyH_done hB (hQ f w h) _
  | (i, s) :: l, listed, f, w, hB, hw, h => by
    simp only [planB, Bool.and_eq_true] at hB
    obtain ⟨h1, hB'⟩ := hB
    have hrd : i ∈ Region.ready .any ops listed := by
      cases s
      · simp only [Bool.and_eq_true] at h1; simpa using h1.1.1
      · simp only [beq_iff_eq] at h1; rw [h1]; simp
    obtain ⟨_, o, h0, _⟩ := mem_ready.1 hrd
    have h0' : ops.toList[i]? = some o := by simpa using h0
    have hoki : okOper n ops o = true := by
      unfold okOps at hok
      rw [List.all_eq_true] at hok
      exact hok _ (List.mem_of_getElem? h0')
    have hsel : selP ops.toList ((i, s) :: l) = (o, s) :: selP ops.toList l := by
      unfold selP
      rw [List.filterMap_cons_some (b := (o, s)) (by simp [h0'])]
    rw [hsel, hOps_cons] at h
    have hg := vcGuard_sound hoki h
    have ih := fun (f : Fr) (w : World) (hw : Ext w0 w) (h : hOps P T n w0 ops.toList (selP ops.toList l) f w K) => hOps_sound hT hok hs hQp hQ l (listed.setIfInBounds i true) f w hB' hw h
    -- by the value in every world that follows
    have byVal : ∀ v, (Region.wanted o (yielded ops (act n f).tmps) = true → ∀ w', Ext w0 w' → (execOp (act n f).eval o).run P w' = .ok (.value v) w') → (Region.wanted o (yielded ops (act n f).tmps) = false → v = undef) →
        hOps P T n w0 ops.toList (selP ops.toList l) (put f o.dst v) w K → wpOp P ops Q i (fun a' w' => Ext w0 w' ∧ wpAnyH P .any ops Q (fun w' => Ext w0 w') l.length (listed.setIfInBounds i true) a' w') (act n f) w := by
      intro v hv hv2 hk
      have hy : YieldsIf P ops (fun w' => Ext w0 w') o v (act n f) := by
        cases hwn : Region.wanted o (yielded ops (act n f).tmps) with
        | true => exact .inl ⟨hwn, hv hwn⟩
        | false => exact .inr ⟨hwn, hv2 hwn⟩
      refine hy.wpOp h0 hw ⟨hw, ?_⟩
      rw [act_puto]
      exact ih _ _ hw hk
    cases s with
    | false =>
      simp only [Bool.and_eq_true, h0, Bool.not_eq_true'] at h1
      obtain ⟨⟨hr, hf⟩, hnc⟩ := h1
      have take : ∀ v, (Region.wanted o (yielded ops (act n f).tmps) = true → ∀ w', Ext w0 w' → (execOp (act n f).eval o).run P w' = .ok (.value v) w') → (Region.wanted o (yielded ops (act n f).tmps) = false → v = undef) →
          hOps P T n w0 ops.toList (selP ops.toList l) (put f o.dst v) w K → wpAnyH P .any ops Q (fun w' => Ext w0 w') (l.length + 1) listed (act n f) w := by
        intro v hv hv2 hk
        have hy : YieldsIf P ops (fun w' => Ext w0 w') o v (act n f) := by
          cases hwn : Region.wanted o (yielded ops (act n f).tmps) with
          | true => exact .inl ⟨hwn, hv hwn⟩
          | false => exact .inr ⟨hwn, hv2 hwn⟩
        refine wpAnyH_take h0 hs hf hr (fun c a w hq => (hQp _ _ _ hq).elim) hy hw ?_
        rw [act_puto]
        exact ih _ _ hw hk
      split at hg
      · rename_i hwn
        simp only [Bool.not_false, Bool.true_or] at hg
        obtain ⟨v, hv, hk⟩ := dOne_yields hT hoki hnc hg
        exact take v (fun _ => hv) (fun hf => by rw [hwn] at hf; cases hf) hk
      · rename_i hwn
        rw [putK_iff] at hg
        exact take undef (fun ht => absurd ht hwn) (fun _ => rfl) hg
    | true =>
      simp only [beq_iff_eq] at h1
      refine wpAnyH_all h1 (by simp) fun j hj => ?_
      simp only [List.mem_singleton] at hj
      subst hj
      split at hg
      · rename_i hwn
        simp only [Bool.not_true, Bool.false_or] at hg
        cases hp : isPure o.op with
        | true =>
          rw [hp] at hg
          obtain ⟨v, hv, hk⟩ := dOne_yields hT hoki (isPure_notCall hp) hg
          exact byVal v (fun _ => hv) (fun hf => by rw [hwn] at hf; cases hf) hk
        | false =>
          rw [hp] at hg
          unfold wpOp
          simp only [h0, hwn, if_true]
          exact .inl (vcOne_sound hT hoki hg fun f w hk => ⟨hk.1, ih _ _ hk.1 hk.2⟩)
      · rename_i hwn
        rw [putK_iff] at hg
        exact byVal undef (fun ht => absurd ht hwn) (fun _ => rfl) hg

/-- A REGION THAT DRAWS ITS ORDER, BY A PLAN -/
theorem DrawK.held {P : Program} {T : Tab} (hT : T.fok P = true) (hm : P.follows .mixedOrders = true) {n : Nat} {ops : Array Oper} (plan : List (Nat × Bool)) (hok : okOps n ops = true) (hB : heldB ops plan = true) {f : Fr} {w : World} {K : Fr → World → Prop}
    (h : ∀ w1, Ext w w1 → hOps P T n w ops.toList (selP ops.toList plan) f w1 K) : DrawK P n ops f w K := by
  unfold DrawK
  intro id
  simp only [heldB, Bool.and_eq_true] at hB
  obtain ⟨⟨hs, hl⟩, hB⟩ := hB
  refine wp_region_held (S := fun w' => Ext w w') hm ?_
  have e1 : Ext w { w with drawn := w.drawn + 1 } := ⟨rfl, rfl, rfl, Nat.le_refl _, fun _ _ => rfl⟩
  have := hOps_sound hT hok hs (Q := lift n K (fun _ _ _ => False) (fun _ _ => False)) (fun c a w hq => hq.elim) (fun f w hk => ⟨f, rfl, hk⟩) plan _ f _ hB e1 (h _ e1)
  rw [Nat.eq_of_beq_eq_true hl] at this
  exact this
end Go.Vc
