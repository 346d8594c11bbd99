/- A region that draws its order and ends in operations that come one behind the other; with the premises that the theorem names. -/
import Derived.Test.YtkjmbjedbmblmaaGreatDoorVcDraw
namespace Go.Vc
open Go Go.RowKit

/-! ### regions that draw their order, whose last operations come one behind the other -/
def edgeB (ops : Array Oper) (i j : Nat) : Bool :=
  match ops[j]? with
  | some o => o.after.any fun e => Region.binds .any e && e.on == i
  | none => false
/-- a copy out of the frame, which waits for nothing -/
def isMv (o : Oper) : Bool :=
  match o.op with
  | .move _ => o.guard.isNone
  | _ => false
def mvAt (ops : List Oper) (i : Nat) : Bool :=
  match ops[i]? with
  | some o => isMv o
  | none => false
/-- of the first m: the copies, then the others -/
def mvs (ops : List Oper) (m : Nat) : List Nat := (List.range m).filter fun i => mvAt ops i
def oths (ops : List Oper) (m : Nat) : List Nat := (List.range m).filter fun i => !mvAt ops i
def sel (ops : List Oper) (l : List Nat) : List Oper := l.filterMap fun i => ops[i]?
/-- m operations that may come in many orders; behind them the others, each of which waits for the one before; the first of these waits for all but copies -/
def tailB (ops : Array Oper) (m : Nat) : Bool :=
  (List.range m).all (fun i => mvAt ops.toList i || (List.range (m + 1)).any fun j => Nat.blt i j && edgeB ops i j) &&
  (List.range ops.size).all (fun i => Nat.blt i m || !(Nat.blt (i + 1) ops.size) || edgeB ops i (i + 1)) &&
  (List.range ops.size).all (fun t => match ops[t]? with | some o => o.after.all (fun e => !Region.binds .any e || Nat.blt e.on t) | none => true) &&
  Nat.blt m ops.size
/-- these come up in this order, each of them free -/
def lexL (ops : Array Oper) (m : Nat) : List Nat → Array Bool → Bool
  | [], listed => Region.ready .any ops listed == [m]
  | k :: l, listed => (Region.ready .any ops listed).contains k && Region.free .any ops listed k && Nat.blt k m && lexL ops m l (listed.setIfInBounds k true)
def lexTail (ops : Array Oper) (m : Nat) : Bool := Region.noSelect ops && lexL ops m (mvs ops.toList m ++ oths ops.toList m) (Array.replicate ops.size false) && tailB ops m

def closed (ops : Array Oper) (listed : Array Bool) : Prop :=
  ∀ k o, ops[k]? = some o → listed.getD k true = true → ∀ e ∈ o.after, Region.binds .any e = true → listed.getD e.on false = true

section
variable {P : Program} {ops : Array Oper} {C : World → Prop} {m : Nat} {listed : Array Bool}

theorem edge_spec {i j : Nat} (h : edgeB ops i j = true) : ∃ o, ops[j]? = some o ∧ ∃ e ∈ o.after, Region.binds .any e = true ∧ e.on = i := by
  unfold edgeB at h
  split at h
  · rename_i o ho
    rw [Array.any_eq_true'] at h
    obtain ⟨e, he, hb⟩ := h
    simp only [Bool.and_eq_true, beq_iff_eq] at hb
    exact ⟨o, ho, e, he, hb⟩
  · cases h
theorem edge_ready {i j : Nat} (h : edgeB ops i j = true) (hr : j ∈ Region.ready .any ops listed) : listed.getD i false = true := by
  obtain ⟨o, ho, e, he, hb, rfl⟩ := edge_spec h
  obtain ⟨_, o', ho', hall⟩ := mem_ready.1 hr
  rw [ho] at ho'
  cases ho'
  exact hall e he hb
theorem edge_closed {i j : Nat} (h : edgeB ops i j = true) (hc : closed ops listed) (hl : listed.getD j true = true) : listed.getD i false = true := by
  obtain ⟨o, ho, e, he, hb, rfl⟩ := edge_spec h
  exact hc j o ho hl e he hb
theorem getD_ff {i : Nat} (h : listed.getD i false = true) : listed.getD i true = true := by
  rcases Nat.lt_or_ge i listed.size with hl | hl
  · simp [hl] at h ⊢; exact h
  · simp [Array.getElem?_eq_none hl] at h

theorem tail_all (hB : tailB ops m = true) (hmv : ∀ i, i < m → mvAt ops.toList i = true → listed.getD i false = true) (hc : closed ops listed) {t : Nat} (hm : m ≤ t) (hr : t ∈ Region.ready .any ops listed) : ∀ i, i < t → listed.getD i false = true := by
  simp only [tailB, Bool.and_eq_true, Bool.or_eq_true, List.all_eq_true, List.mem_range, List.any_eq_true, Nat.blt_eq] at hB
  obtain ⟨⟨⟨h1, h2⟩, _⟩, _⟩ := hB
  have hts : t < ops.size := by
    obtain ⟨_, o, ho, _⟩ := mem_ready.1 hr
    exact (Array.getElem?_eq_some_iff.1 ho).1
  -- the chain
  have chain : ∀ d i, i + d = t → m ≤ i → i < t → listed.getD i false = true := by
    intro d
    induction d with
    | zero => intro i hi _ hlt; omega
    | succ d ih =>
      intro i hi hmi hlt
      have he : edgeB ops i (i + 1) = true := by
        have := h2 i (by omega)
        simp only [Bool.not_eq_true'] at this
        rcases this with (h | h) | h
        · omega
        · have : Nat.blt (i + 1) ops.size = true := by rw [Nat.blt_eq]; omega
          rw [this] at h; cases h
        · exact h
      rcases Nat.lt_or_ge (i + 1) t with hlt2 | hge
      · exact edge_closed he hc (getD_ff (ih (i + 1) (by omega) (by omega) hlt2))
      · have : i + 1 = t := by omega
        subst this
        exact edge_ready he hr
  have pre : ∀ d i, i + d = m → i < m → listed.getD i false = true := by
    intro d
    induction d using Nat.strongRecOn with
    | _ d ih =>
      intro i hi hlt
      rcases h1 i hlt with hmi | hj
      · exact hmv i hlt hmi
      obtain ⟨j, hj, hij⟩ := hj
      rcases Nat.lt_or_ge j m with hjm | hjm
      · exact edge_closed hij.2 hc (getD_ff (ih (m - j) (by omega) j (by omega) hjm))
      · have : j = m := by omega
        subst this
        rcases Nat.lt_or_ge j t with hjt | hjt
        · exact edge_closed hij.2 hc (getD_ff (chain (t - j) j (by omega) (Nat.le_refl _) hjt))
        · have : j = t := by omega
          subst this
          exact edge_ready hij.2 hr
  intro i hi
  rcases Nat.lt_or_ge i m with h | h
  · exact pre (m - i) i (by omega) h
  · exact chain (t - i) i (by omega) h hi

/-- whatever order the first m come in -/
def wpAnyT (P : Program) (ops : Array Oper) (C : World → Prop) (m : Nat) (R : Act → Prop) : Nat → Array Bool → Act → Prop
  | 0, listed, a => Region.ready .any ops listed = [m] ∧ R a
  | fuel + 1, listed, a =>
    (∃ i ∈ Region.ready .any ops listed, i < m) ∧ ∀ i ∈ Region.ready .any ops listed, i < m → qOp P ops C i (wpAnyT P ops C m R fuel (listed.setIfInBounds i true)) a

theorem wpAnyT_first {R : Act → Prop} {i : Nat} {oi : Oper} {v : Value} (hi : ops[i]? = some oi) (him : i < m) (hsel : ∀ (j : Nat) (o : Oper) cs b, ops[j]? = some o → o.op ≠ .select cs b) :
    ∀ (fuel : Nat) (listed : Array Bool) (a : Act),
      (∀ j oj, ops[j]? = some oj → j ≠ i → listed.getD j true = false → (∀ e ∈ oj.after, Region.binds .any e = true → e.on ≠ i) → oi.apart ops oj = true) →
      i ∈ Region.ready .any ops listed → YieldsIn P ops C oi v a →
      wpAnyT P ops C m R fuel (listed.setIfInBounds i true) (a.put oi.dst v) → wpAnyT P ops C m R (fuel + 1) listed a := by
  intro fuel
  induction fuel with
  | zero =>
    intro listed a _ hr hy H
    refine ⟨⟨i, hr, him⟩, fun j hj hjm => ?_⟩
    by_cases hji : j = i
    · subst hji; exact hy.qOp hi H
    · have := ready_mono hj hji
      rw [H.1] at this
      simp at this
      omega
  | succ fuel ih =>
    intro listed a hfree hr hy H
    refine ⟨⟨i, hr, him⟩, fun j hj hjm => ?_⟩
    by_cases hji : j = i
    · subst hji; exact hy.qOp hi H
    · have h1 := H.2 j (ready_mono hj hji) hjm
      obtain ⟨hjun, oj, hoj, hall⟩ := mem_ready.1 hj
      have hnot : ∀ e ∈ oj.after, Region.binds .any e = true → e.on ≠ i := fun e he hb heq => by
        have h1 := hall e he hb
        have h0 := (mem_ready.1 hr).1
        rw [heq] at h1
        rcases Nat.lt_or_ge i listed.size with h' | h'
        · simp [h'] at h0 h1; rw [h0] at h1; cases h1
        · simp [Array.getElem?_eq_none h'] at h1
      have h2 := qOp_put hoj (hfree j oj hoj hji hjun hnot) (fun cs b => hsel i oi cs b hi) (fun cs b => hsel j oj cs b hoj) hy h1
      have hfree' : ∀ k ok, ops[k]? = some ok → k ≠ i → (listed.setIfInBounds j true).getD k true = false →
          (∀ e ∈ ok.after, Region.binds .any e = true → e.on ≠ i) → oi.apart ops ok = true := fun k ok hk hki hun hno => by
        refine hfree k ok hk hki ?_ hno
        by_cases hjk : j = k
        · subst hjk; exact hjun
        · rw [getD_set_ne true hjk] at hun; exact hun
      refine qOp_mono (fun a' h3 => ih (listed.setIfInBounds j true) a' hfree' (ready_mono hr (Ne.symm hji)) h3.1 ?_) h2
      rw [Array.setIfInBounds_comm _ _ hji]
      exact h3.2

theorem wpAnyT_lex {R : Act → Prop} (hs : Region.noSelect ops = true) : ∀ (l : List Nat) (listed : Array Bool) (a : Act),
    lexL ops m l listed = true → wpQuiet P ops C R (sel ops.toList l) a → wpAnyT P ops C m R l.length listed a
  | [], _, _, hB, h => by
    simp only [lexL, beq_iff_eq] at hB
    exact ⟨hB, h⟩
  | k :: l, listed, a, hB, h => by
    simp only [lexL, Bool.and_eq_true, Nat.blt_eq] at hB
    obtain ⟨⟨⟨hr, hf⟩, hkm⟩, hB'⟩ := hB
    have hmem : k ∈ Region.ready .any ops listed := by simpa using hr
    obtain ⟨_, o, h0, _⟩ := mem_ready.1 hmem
    have hsel : sel ops.toList (k :: l) = o :: sel ops.toList l := by
      have : ops.toList[k]? = some o := by simpa using h0
      unfold sel
      rw [List.filterMap_cons_some this]
    rw [hsel] at h
    have hst : qOp P ops C k (wpQuiet P ops C R (sel ops.toList l)) a := by unfold qOp; simp only [h0]; exact h
    obtain ⟨v, hy, hK⟩ := yieldsIn_of_qOp h0 hst
    exact wpAnyT_first h0 hkm (Region.noSelect_spec hs) l.length listed a (Region.free_spec h0 hf) hmem hy
      (wpAnyT_lex hs l _ _ hB' hK)

theorem getD_set_eq {i : Nat} {u : Bool} (hi : i < listed.size) : (listed.setIfInBounds i true).getD i u = true := by simp [hi]
theorem closed_set {i : Nat} (hc : closed ops listed) (hi : i ∈ Region.ready .any ops listed) : closed ops (listed.setIfInBounds i true) := by
  intro k o hk hl e he hb
  by_cases hik : i = k
  · subst hik
    obtain ⟨_, o', ho', hall⟩ := mem_ready.1 hi
    rw [hk] at ho'
    cases ho'
    exact getD_set_true (hall e he hb)
  · rw [getD_set_ne true hik] at hl
    exact getD_set_true (hc k o hk hl e he hb)

/-- the last ones, one behind the other -/
theorem tail_run {Q : Exit → Act → World → Prop} (hB : tailB ops m = true) : ∀ (d t : Nat) (listed : Array Bool) (a : Act) (w : World), t + d = ops.size → m ≤ t → listed.size = ops.size → (∀ i, i < ops.size → listed.getD i false = decide (i < t)) →
    wpOps P ops Q (List.range' t d) a w → wpAny P .any ops Q d listed a w
  | 0, t, listed, a, w, ht, hm, hsz, hl, h => by
    refine ⟨?_, by simpa [wpOps] using h⟩
    rw [List.eq_nil_iff_forall_not_mem]
    intro i hi
    obtain ⟨hu, o, ho, _⟩ := mem_ready.1 hi
    have his := (Array.getElem?_eq_some_iff.1 ho).1
    have := hl i his
    rw [decide_eq_true (by omega)] at this
    have := getD_ff this
    rw [hu] at this; cases this
  | d + 1, t, listed, a, w, ht, hm, hsz, hl, h => by
    have hB' := hB
    simp only [tailB, Bool.and_eq_true, List.all_eq_true, List.mem_range] at hB'
    obtain ⟨⟨⟨_, h2⟩, h3⟩, _⟩ := hB'
    have hto : ∃ o, ops[t]? = some o := ⟨ops[t]'(by omega), by simp⟩
    obtain ⟨o, ho⟩ := hto
    have hready : ∀ i ∈ Region.ready .any ops listed, i = t := by
      intro i hi
      obtain ⟨hu, oi, hoi, hall⟩ := mem_ready.1 hi
      have his := (Array.getElem?_eq_some_iff.1 hoi).1
      have hge : ¬ i < t := fun hlt => by
        have := hl i his
        rw [decide_eq_true hlt] at this
        have := getD_ff this
        rw [hu] at this; cases this
      rcases Nat.lt_or_ge t i with hlt | hle
      · exfalso
        have he : edgeB ops (i - 1) (i - 1 + 1) = true := by
          have := h2 (i - 1) (by omega)
          simp only [Bool.or_eq_true, Nat.blt_eq, Bool.not_eq_true'] at this
          rcases this with (h | h) | h
          · omega
          · have : Nat.blt (i - 1 + 1) ops.size = true := by rw [Nat.blt_eq]; omega
            rw [this] at h; cases h
          · exact h
        rw [show i - 1 + 1 = i by omega] at he
        have := edge_ready he hi
        rw [hl (i - 1) (by omega)] at this
        have := of_decide_eq_true this
        omega
      · omega
    have hmem : t ∈ Region.ready .any ops listed := by
      rw [mem_ready]
      refine ⟨?_, o, ho, fun e he hb => ?_⟩
      · have := hl t (by omega)
        rw [decide_eq_false (by omega)] at this
        have hlt : t < listed.size := by omega
        simp [hlt] at this ⊢
        exact this
      · have := h3 t (by omega)
        rw [ho] at this
        simp only [Array.all_eq_true_iff_forall_mem, Bool.or_eq_true, Bool.not_eq_true', Nat.blt_eq] at this
        rcases this e he with h' | h'
        · rw [hb] at h'; cases h'
        · rw [hl e.on (by omega)]
          exact decide_eq_true h'
    refine ⟨fun h0 => (by rw [h0] at hmem; cases hmem), fun i hi => ?_⟩
    have := hready i hi
    subst this
    rw [List.range'_succ, wpOps_cons] at h
    refine wpOp_mono (fun a' w' h' => tail_run hB d (i + 1) _ a' w' (by omega) (by omega) (by simp [hsz]) (fun k hk => ?_) h') h
    by_cases hik : i = k
    · subst hik
      rw [getD_set_eq (by omega), decide_eq_true (by omega)]
    · rw [getD_set_ne false hik, hl k hk]
      congr 1
      simp only [eq_iff_iff]
      omega

theorem wpAny_of_tail {Q : Exit → Act → World → Prop} {R : Act → Prop} (hB : tailB ops m = true) (hR : ∀ a w, C w → R a → wpOps P ops Q (List.range' m (ops.size - m)) a w) :
    ∀ (fuel : Nat) (listed : Array Bool) (a : Act) (w : World), C w → closed ops listed → (∀ i, i < m → mvAt ops.toList i = true → listed.getD i false = true) → listed.size = ops.size → (∀ i, m ≤ i → i < ops.size → listed.getD i true = false) → wpAnyT P ops C m R fuel listed a → wpAny P .any ops Q (fuel + (ops.size - m)) listed a w
  | 0, listed, a, w, hw, hc, hmv, hsz, hu, h => by
    have hms : m < ops.size := by
      simp only [tailB, Bool.and_eq_true, Nat.blt_eq] at hB
      exact hB.2
    have hmr : m ∈ Region.ready .any ops listed := by rw [h.1]; simp
    have hall := tail_all hB hmv hc (Nat.le_refl _) hmr
    rw [Nat.zero_add]
    refine tail_run hB (ops.size - m) m listed a w (by omega) (Nat.le_refl _) hsz (fun i hi => ?_) (hR a w hw h.2)
    rcases Nat.lt_or_ge i m with hlt | hge
    · rw [hall i hlt, decide_eq_true hlt]
    · have := hu i hge hi
      rw [decide_eq_false (by omega)]
      have hl : i < listed.size := by omega
      simp [hl] at this ⊢
      exact this
  | fuel + 1, listed, a, w, hw, hc, hmv, hsz, hu, h => by
    obtain ⟨⟨i0, hi0, hi0m⟩, hq⟩ := h
    rw [show fuel + 1 + (ops.size - m) = (fuel + (ops.size - m)) + 1 by omega]
    refine ⟨fun h0 => (by rw [h0] at hi0; cases hi0), fun i hi => ?_⟩
    have him : i < m := by
      rcases Nat.lt_or_ge i m with h | h
      · exact h
      · have := tail_all hB hmv hc h hi i0 (by omega)
        have h1 := (mem_ready.1 hi0).1
        have := getD_ff this
        rw [h1] at this; cases this
    refine wpOp_of_qOp hw (fun a' w' hw' hk => wpAny_of_tail hB hR fuel _ a' w' hw' (closed_set hc hi) (fun k hk1 hk2 => getD_set_true (hmv k hk1 hk2)) (by simp [hsz]) (fun k hk1 hk2 => ?_) hk) (hq i hi him)
    rw [getD_set_ne true (by omega)]
    exact hu k hk1 hk2

theorem closed_none (ops : Array Oper) : closed ops (Array.replicate ops.size false) := by
  intro k o hk hl
  have := (Array.getElem?_eq_some_iff.1 hk).1
  simp [this] at hl
end

theorem vcOps_tail {P : Program} {T : Tab} (hT : T.fok P = true) {n : Nat} {all : Array Oper} (hok : okOps n all = true) {K : Fr → World → Prop} {Q : Exit → Act → World → Prop}
    (hQ : ∀ f w, K f w → Q .normal (act n f) w) (m : Nat) (hm : m ≤ all.size) (f : Fr) (w : World) (h : vcOps P T n all.toList (all.toList.drop m) f w K) : wpOps P all Q (List.range' m (all.size - m)) (act n f) w :=
  vcOps_sound hT hok hQ (all.size - m) m f w (by omega) h

theorem isMv_spec {o : Oper} (h : isMv o = true) : ∃ x, o.op = .move x ∧ o.guard = none := by
  unfold isMv at h
  split at h
  · rename_i x hx
    exact ⟨x, hx, by simpa using h⟩
  · cases h
theorem dOps_move {P : Program} {T : Tab} {w : World} {all : List Oper} {o : Oper} {os : List Oper} {f : Fr} {K : Fr → Prop} {x : Operand} (hx : o.op = .move x) (hg : o.guard = none)
    (h : dOps P T w all (o :: os) f K) : dOps P T w all os (put f o.dst (ev f x)) K := by
  rw [dOps_cons] at h
  unfold vcGuard at h
  rw [hg] at h
  simp only at h
  unfold dOne at h
  rw [hx] at h
  simp only [pureOp] at h
  rw [force_iff, putK_iff] at h
  exact h
/-- the copies first -/
theorem wpAny_moves {P : Program} {T : Tab} {w0 : World} {n : Nat} {ops : Array Oper} {m : Nat} {Q : Exit → Act → World → Prop} (hQ : ∀ c a w, ¬ Q (.panic c) a w) (hs : Region.noSelect ops = true) (hok : okOps n ops = true) {K : Fr → Prop} (fuel : Nat) (l2 : List Nat) (w : World) :
    ∀ (l : List Nat) (listed : Array Bool) (f : Fr), (∀ i ∈ l, mvAt ops.toList i = true) → lexL ops m (l ++ l2) listed = true → dOps P T w0 ops.toList (sel ops.toList (l ++ l2)) f K → closed ops listed →
      (∀ (f' : Fr) (listed' : Array Bool), dOps P T w0 ops.toList (sel ops.toList l2) f' K → lexL ops m l2 listed' = true → closed ops listed' → listed'.size = listed.size →
        (∀ i, listed'.getD i true = true → i < listed.size → listed.getD i true = true ∨ i ∈ l) → (∀ i, listed.getD i false = true ∨ (i ∈ l ∧ i < listed.size) → listed'.getD i false = true) → wpAny P .any ops Q fuel listed' (act n f') w) →
      wpAny P .any ops Q (l.length + fuel) listed (act n f) w
  | [], listed, f, _, hB, h, hc, H => by
    have := H f listed (by simpa using h) (by simpa using hB) hc rfl (fun i hi _ => .inl hi) (fun i hi => hi.elim id (fun h => by simp at h))
    simpa using this
  | k :: l, listed, f, hmv, hB, h, hc, H => by
    simp only [List.cons_append, lexL, Bool.and_eq_true, Nat.blt_eq] at hB
    obtain ⟨⟨⟨hr, hf⟩, hkm⟩, hB'⟩ := hB
    have hmem : k ∈ Region.ready .any ops listed := by simpa using hr
    obtain ⟨hun, o, h0, _⟩ := mem_ready.1 hmem
    have h0' : ops.toList[k]? = some o := by simpa using h0
    have hmo : isMv o = true := by
      have := hmv k (by simp)
      unfold mvAt at this
      rw [h0'] at this
      exact this
    obtain ⟨x, hx, hg⟩ := isMv_spec hmo
    have hsel : sel ops.toList (k :: l ++ l2) = o :: sel ops.toList (l ++ l2) := by
      unfold sel
      rw [List.cons_append, List.filterMap_cons_some h0']
    rw [hsel] at h
    have h' := dOps_move hx hg h
    have hokx : okOper n ops o = true := by
      unfold okOps at hok
      rw [List.all_eq_true] at hok
      exact hok _ (List.mem_of_getElem? h0')
    have hevx : (act n f).eval x = ev f x := by
      simp only [okOper, Bool.and_eq_true, List.all_eq_true] at hokx
      exact ev_act (hokx.1 x (by simp [hx, Op.operands]))
    have hy : Yields P ops o (ev f x) (act n f) := .inl ⟨by simp [Region.wanted, hg], fun w => by
      unfold execOp
      simp only [hx, hevx]
      rfl⟩
    have hks : k < listed.size := by
      rcases Nat.lt_or_ge k listed.size with h | h
      · exact h
      · simp [Array.getElem?_eq_none h] at hun
    rw [show (k :: l).length + fuel = (l.length + fuel) + 1 by simp; omega]
    refine wpAny_take h0 hs hf hr (fun c a w hq => (hQ _ _ _ hq).elim) hy ?_
    rw [act_puto]
    refine wpAny_moves hQ hs hok fuel l2 w l _ _ (fun i hi => hmv i (by simp [hi])) hB' h' (closed_set hc hmem) fun f' listed' h1 h2 h3 h4 h5 h6 => ?_
    refine H f' listed' h1 h2 h3 (by simpa using h4) (fun i hi hlt => ?_) (fun i hi => ?_)
    · by_cases hik : i = k
      · exact .inr (by simp [hik])
      · rcases h5 i hi (by simpa using hlt) with h | h
        · rw [getD_set_ne true (Ne.symm hik)] at h
          exact .inl h
        · exact .inr (by simp [h])
    · refine h6 i ?_
      rcases hi with hi | ⟨hi, hlt⟩
      · exact .inl (getD_set_true hi)
      · rcases List.mem_cons.1 hi with rfl | hi
        · exact .inl (getD_set_eq hlt)
        · exact .inr ⟨hi, by simpa using hlt⟩

/-- A REGION THAT DRAWS ITS ORDER, the first m operations of which give one value whatever the order, and the others of which come behind these, one behind the other -/
theorem DrawK.tail {P : Program} {T : Tab} (hT : T.fok P = true) (hm : P.follows .mixedOrders = true) {n : Nat} {ops : Array Oper} (m : Nat) (hok : okOps n ops = true) (hB : lexTail ops m = true) {f : Fr} {w : World} {K : Fr → World → Prop}
    (h : dOps P T w ops.toList (sel ops.toList (mvs ops.toList m ++ oths ops.toList m)) f fun f' => ∀ w', Ext w w' → vcOps P T n ops.toList (ops.toList.drop m) f' w' K) : DrawK P n ops f w K := by
  unfold DrawK
  intro id
  simp only [lexTail, Bool.and_eq_true] at hB
  obtain ⟨⟨hs, hl⟩, hB⟩ := hB
  have hms : m < ops.size := by
    simp only [tailB, Bool.and_eq_true, Nat.blt_eq] at hB
    exact hB.2
  have hlen : (mvs ops.toList m).length + (oths ops.toList m).length = m := by
    have h1 : ∀ l : List Nat, (l.filter fun i => mvAt ops.toList i).length + (l.filter fun i => !mvAt ops.toList i).length = l.length := by
      intro l
      induction l with
      | nil => rfl
      | cons x l ih =>
        cases hx : mvAt ops.toList x <;> simp [List.filter_cons, hx] <;> omega
    have h2 := h1 (List.range m)
    simpa [mvs, oths] using h2
  refine wp_region_any hm ?_
  have key := wpAny_moves (P := P) (T := T) (w0 := w) (n := n) (ops := ops) (m := m) (Q := lift n K (fun _ _ _ => False) (fun _ _ => False)) (fun c a w hq => hq.elim) hs hok
    (K := fun f' => ∀ w', Ext w w' → vcOps P T n ops.toList (ops.toList.drop m) f' w' K) ((oths ops.toList m).length + (ops.size - m)) (oths ops.toList m) { w with drawn := w.drawn + 1 } (mvs ops.toList m) (Array.replicate ops.size false) f
    (fun i hi => by simp only [mvs, List.mem_filter] at hi; exact hi.2) hl h (closed_none ops) fun f' listed' hd hl' hc' hsz h5 h6 => by
      have hq := dOps_sound hT hok (Q := fun a' => ∀ w', Ext w w' → wpOps P ops (lift n K (fun _ _ _ => False) (fun _ _ => False)) (List.range' m (ops.size - m)) a' w')
        (fun f' hk w' hw' => vcOps_tail hT hok (Q := lift n K (fun _ _ _ => False) (fun _ _ => False)) (fun f w hk => ⟨f, rfl, hk⟩) m (by omega) f' w' (hk w' hw')) (sel ops.toList (oths ops.toList m)) f'
        (fun o ho => by
          simp only [sel, List.mem_filterMap] at ho
          obtain ⟨i, _, hi⟩ := ho
          exact List.mem_of_getElem? hi) hd
      have ht := wpAnyT_lex (m := m) hs (oths ops.toList m) listed' (act n f') hl' hq
      refine wpAny_of_tail (C := fun w' => Ext w w') hB (fun a w' hw' hr => hr w' hw') _ _ _ { w with drawn := w.drawn + 1 } ⟨rfl, rfl, rfl, Nat.le_refl _, fun _ _ => rfl⟩ hc' (fun i hi hmvi => ?_) (by simpa using hsz) (fun i h1 h2 => ?_) ht
      · exact h6 i (.inr ⟨by simp only [mvs, List.mem_filter, List.mem_range]; exact ⟨hi, hmvi⟩, by simp; omega⟩)
      · cases hb : listed'.getD i true with
        | false => rfl
        | true =>
          exfalso
          rcases h5 i hb (by simpa using h2) with h | h
          · simp [h2] at h
          · simp only [mvs, List.mem_filter, List.mem_range] at h
            omega
  rw [show (mvs ops.toList m).length + ((oths ops.toList m).length + (ops.size - m)) = ops.size by omega] at key
  exact key
end Go.Vc
