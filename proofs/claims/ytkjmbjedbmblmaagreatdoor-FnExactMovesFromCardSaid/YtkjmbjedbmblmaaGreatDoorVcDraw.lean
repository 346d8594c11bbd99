/- A region that draws its order, each operation of which gives one value in every order, is walked once in the order of the text; with the premises that the theorem names. -/
import Derived.Test.YtkjmbjedbmblmaaGreatDoorVcSl
namespace Go.Vc
open Go Go.RowKit

/-- an instruction that gives one and the same value in every world that follows w, and leaves the world alone -/
@[irreducible] def DSemK (P : Program) (s : Sem Value) (w : World) (K : Value → Prop) : Prop :=
  ∃ v, (∀ w', Ext w w' → s.run P w' = .ok v w') ∧ K v
theorem DSemK.of {P : Program} {s : Sem Value} {w : World} {K : Value → Prop} {v : Value} (h : ∀ w', Ext w w' → SemK P s w' (fun u w'' => u = v ∧ w' = w'')) (hk : K v) : DSemK P s w K := by
  unfold DSemK
  refine ⟨v, fun w' e => ?_, hk⟩
  obtain ⟨u, w'', hr, rfl, rfl⟩ := (h w' e).out
  exact hr
@[irreducible] def DDoes (P : Program) (g : Nat) (args : List Value) (w : World) (K : Value → Prop) : Prop :=
  ∃ v, (∀ w', Ext w w' → Does P g args w' (fun u w'' => u = v ∧ Ext w' w'')) ∧ K v
theorem DDoes.of {P : Program} {g : Nat} {args : List Value} {w : World} {K : Value → Prop} {v : Value} (h : ∀ w', Ext w w' → Does P g args w' (fun u w'' => u = v ∧ Ext w' w'')) (hk : K v) : DDoes P g args w K := by
  unfold DDoes; exact ⟨v, h, hk⟩
/-- a call that leaves the world alone -/
theorem DDoes.same {P : Program} {g : Nat} {args : List Value} {w : World} {K : Value → Prop} {v : Value} (h : ∀ w', Ext w w' → Does P g args w' (fun u w'' => u = v ∧ w' = w'')) (hk : K v) : DDoes P g args w K :=
  DDoes.of (fun w' e => (h w' e).mono fun _ _ ⟨h1, h2⟩ => ⟨h1, by subst h2; exact Ext.refl _⟩) hk

def dOne (P : Program) (T : Tab) (w : World) (o : Oper) (f : Fr) (K : Fr → Prop) : Prop :=
  match o.op with
  | .call { callee := .value x, args := ⟨as⟩, .. } =>
    match ev f x with
    | .func (.func g) ⟨first⟩ ⟨cap⟩ => DDoes P g (first ++ as.map (ev f) ++ cap) w (fun v => putK o.dst f v K)
    | _ => False
  | .load t x => DSemK P (Instr.loadAt t (ev f x)) w (fun v => putK o.dst f v K)
  | .indexAddr t x i => DSemK P (Instr.indexAt t (ev f x) (ev f i)) w (fun v => putK o.dst f v K)
  | .index t x i => DSemK P (Instr.index t (ev f x) (ev f i)) w (fun v => putK o.dst f v K)
  | op => match pureOp T f op with
    | some v => force v fun v => putK o.dst f v K
    | none => match op with
      | .binOp op t x y _ => DSemK P (arith op t x y (ev f x) (ev f y)) w (fun v => putK o.dst f v K)
      | .unOp op _ x => DSemK P (Op.unary op (ev f x)) w (fun v => putK o.dst f v K)
      | .convert s t x => DSemK P (convert s t (ev f x)) w (fun v => putK o.dst f v K)
      | .slice t x lo hi mx => DSemK P (Instr.sliceAt t (ev f x) (lo.map (ev f)) (hi.map (ev f)) (mx.map (ev f))) w (fun v => putK o.dst f v K)
      | .build t ⟨ps⟩ => DSemK P (Instr.build t (ps.map fun p => (p.1, ev f p.2)).toArray) w (fun v => putK o.dst f v K)
      | _ => False

noncomputable def dOps (P : Program) (T : Tab) (w : World) (all : List Oper) (os : List Oper) : Fr → (Fr → Prop) → Prop :=
  List.rec (motive := fun _ => Fr → (Fr → Prop) → Prop) (fun f K => K f)
    (fun o _ ih f K => vcGuard all o f (fun f => dOne P T w o f fun f => ih f K) (fun f => putK o.dst f undef fun f => ih f K)) os
theorem dOps_cons (P : Program) (T : Tab) (w : World) (all : List Oper) (o : Oper) (os : List Oper) (f : Fr) (K : Fr → Prop) :
    dOps P T w all (o :: os) f K = vcGuard all o f (fun f => dOne P T w o f fun f => dOps P T w all os f K) (fun f => putK o.dst f undef fun f => dOps P T w all os f K) := rfl

theorem quiet_value {P : Program} {o : Oper} {n : Nat} {f : Fr} {C : World → Prop} {w : World} {v : Value} (h : (execOp (act n f).eval o).run P w = .ok (.value v) w) : o.quietAt P (act n f) C w v := by
  unfold Oper.quietAt; rw [h]; exact ⟨rfl, rfl⟩

theorem dOne_sound {P : Program} {T : Tab} (hT : T.fok P = true) {n : Nat} {all : Array Oper} {o : Oper} {f : Fr} {w : World} {K : Fr → Prop} (hok : okOper n all o = true)
    (h : dOne P T w o f K) {L : Act → Prop} (hL : ∀ f, K f → L (act n f)) : o.quiet P (act n f) (fun w' => Ext w w') L := by
  simp only [okOper, Bool.and_eq_true] at hok
  have hok := hok.1
  have hin := hok
  rw [List.all_eq_true] at hin
  have hL' : ∀ v, putK o.dst f v K → L ((act n f).put o.dst v) := fun v hk => by
    rw [putK_iff] at hk
    have := hL _ hk
    rw [← act_puto] at this
    exact this
  unfold dOne at h
  split at h
  · rename_i x as ats ho
    have hx : (act n f).eval x = ev f x := ev_act (hin x (by simp [ho, Op.operands, Call.operands]))
    have has : as.map (act n f).eval = as.map (ev f) := map_eval fun y hy => hin y (by simp [ho, Op.operands, Call.operands]; right; exact hy)
    split at h
    · rename_i g first cap hf
      unfold DDoes at h
      obtain ⟨v, hd, hk⟩ := h
      refine ⟨v, fun w' hw' => ?_, hL' _ hk⟩
      have hd := hd w' hw'
      unfold Does at hd
      obtain ⟨hfn, hc⟩ := hd
      unfold isFn at hfn
      split at hfn
      · rename_i fn hfn2
        simp only [Bool.and_eq_true, bne_iff_ne, ne_eq] at hfn
        have hbody : ¬ fn.body = none := by cases hb : fn.body <;> simp_all
        have hname : ¬ fn.name = "runtime.NumGoroutine" := hfn.2
        have hr : (execOp (act n f).eval o).run P w' = .ok (.enter g (first ++ as.map (ev f) ++ cap).toArray) w' := by
          unfold execOp
          simp only [ho]
          simp [resolve, hx, hf, Deferred.ofValue, invoke, callFunc, hfn2, hbody, hname, has]
        unfold Oper.quietAt
        rw [hr]
        refine ⟨rfl, hc.mono fun e w'' ⟨u, he, hu, hx⟩ => ?_⟩
        subst he
        subst hu
        exact ⟨rfl, Ext.trans hw' hx⟩
      · cases hfn
    · exact h.elim
  · rename_i t x ho
    have hx : (act n f).eval x = ev f x := ev_act (hin x (by simp [ho, Op.operands]))
    unfold DSemK at h
    obtain ⟨v, hr, hk⟩ := h
    refine ⟨v, fun w' hw' => quiet_value ?_, hL' _ hk⟩
    have hr := hr w' hw'
    unfold execOp
    simp only [ho, hx]
    simp [hr]
  · rename_i t x y ho
    have hx : (act n f).eval x = ev f x := ev_act (hin x (by simp [ho, Op.operands]))
    have hy : (act n f).eval y = ev f y := ev_act (hin y (by simp [ho, Op.operands]))
    unfold DSemK at h
    obtain ⟨v, hr, hk⟩ := h
    refine ⟨v, fun w' hw' => quiet_value ?_, hL' _ hk⟩
    have hr := hr w' hw'
    unfold execOp
    simp only [ho, hx, hy]
    simp [hr]
  · rename_i t x y ho
    have hx : (act n f).eval x = ev f x := ev_act (hin x (by simp [ho, Op.operands]))
    have hy : (act n f).eval y = ev f y := ev_act (hin y (by simp [ho, Op.operands]))
    unfold DSemK at h
    obtain ⟨v, hr, hk⟩ := h
    refine ⟨v, fun w' hw' => quiet_value ?_, hL' _ hk⟩
    have hr := hr w' hw'
    unfold execOp
    simp only [ho, hx, hy]
    simp [hr]
  · split at h
    · rename_i v hv
      rw [force_iff] at h
      exact ⟨v, fun w' _ => quiet_value (pureOp_run hT hok hv w'), hL' _ h⟩
    · split at h
      · rename_i op t x y yt ho
        have hx : (act n f).eval x = ev f x := ev_act (hin x (by simp [ho, Op.operands]))
        have hy : (act n f).eval y = ev f y := ev_act (hin y (by simp [ho, Op.operands]))
        unfold DSemK at h
        obtain ⟨v, hr, hk⟩ := h
        refine ⟨v, fun w' hw' => quiet_value ?_, hL' _ hk⟩
        have hr := hr w' hw'
        unfold execOp
        simp only [ho, hx, hy]
        unfold arith at hr
        simp only [Sem.run_bind] at hr ⊢
        rw [hr]; simp
      · rename_i op t x ho
        have hx : (act n f).eval x = ev f x := ev_act (hin x (by simp [ho, Op.operands]))
        unfold DSemK at h
        obtain ⟨v, hr, hk⟩ := h
        refine ⟨v, fun w' hw' => quiet_value ?_, hL' _ hk⟩
        have hr := hr w' hw'
        unfold execOp
        simp only [ho, hx]
        simp [hr]
      · rename_i s t x ho
        have hx : (act n f).eval x = ev f x := ev_act (hin x (by simp [ho, Op.operands]))
        unfold DSemK at h
        obtain ⟨v, hr, hk⟩ := h
        refine ⟨v, fun w' hw' => quiet_value ?_, hL' _ hk⟩
        have hr := hr w' hw'
        unfold execOp
        simp only [ho, hx]
        simp [hr]
      · rename_i t x lo hi mx ho
        have hx : (act n f).eval x = ev f x := ev_act (hin x (by simp [ho, Op.operands]))
        have hlo : lo.map (act n f).eval = lo.map (ev f) := by
          cases lo with
          | none => rfl
          | some y => simp only [Option.map_some]; rw [ev_act (hin y (by simp [ho, Op.operands]))]
        have hhi : hi.map (act n f).eval = hi.map (ev f) := by
          cases hi with
          | none => rfl
          | some y => simp only [Option.map_some]; rw [ev_act (hin y (by simp [ho, Op.operands]))]
        have hmx : mx.map (act n f).eval = mx.map (ev f) := by
          cases mx with
          | none => rfl
          | some y => simp only [Option.map_some]; rw [ev_act (hin y (by simp [ho, Op.operands]))]
        unfold DSemK at h
        obtain ⟨v, hr, hk⟩ := h
        refine ⟨v, fun w' hw' => quiet_value ?_, hL' _ hk⟩
        have hr := hr w' hw'
        unfold execOp
        simp only [ho, hx, hlo, hhi, hmx]
        simp [hr]
      · rename_i t ps ho
        have hps : (ps.map fun p : Nat × Operand => (p.1, (act n f).eval p.2)) = ps.map fun p => (p.1, ev f p.2) := List.map_congr_left fun p hp => by
          rw [ev_act (hin p.2 (by simp [ho, Op.operands]; exact ⟨p.1, hp⟩))]
        unfold DSemK at h
        obtain ⟨v, hr, hk⟩ := h
        refine ⟨v, fun w' hw' => quiet_value ?_, hL' _ hk⟩
        have hr := hr w' hw'
        unfold execOp
        simp only [ho]
        simp [hps, hr]
      · exact h.elim

theorem dOps_sound {P : Program} {T : Tab} (hT : T.fok P = true) {n : Nat} {all : Array Oper} (hok : okOps n all = true) {w : World} {K : Fr → Prop} {Q : Act → Prop}
    (hQ : ∀ f, K f → Q (act n f)) : ∀ (os : List Oper) (f : Fr), (∀ o ∈ os, o ∈ all.toList) → dOps P T w all.toList os f K → wpQuiet P all (fun w' => Ext w w') Q os (act n f)
  | [], f, _, h => hQ _ h
  | o :: os, f, hm, h => by
    have hoki : okOper n all o = true := by
      unfold okOps at hok
      rw [List.all_eq_true] at hok
      exact hok _ (hm o (by simp))
    rw [dOps_cons] at h
    have hg := vcGuard_sound hoki h
    simp only [wpQuiet]
    split
    · rename_i hw
      rw [if_pos hw] at hg
      exact dOne_sound hT hoki hg fun f hk => dOps_sound hT hok hQ os f (fun o ho => hm o (by simp [ho])) hk
    · rename_i hw
      rw [if_neg hw, putK_iff] at hg
      rw [act_puto]
      exact dOps_sound hT hok hQ os _ (fun o ho => hm o (by simp [ho])) hg

/-- A REGION THAT DRAWS ITS ORDER, every operation of which gives one value whatever the order: one walk in the order of the text -/
theorem DrawK.det {P : Program} {T : Tab} (hT : T.fok P = true) (hm : P.follows .mixedOrders = true) {n : Nat} {ops : Array Oper} (hok : okOps n ops = true) (hB : Region.lexB .any ops = true) {f : Fr} {w : World} {K : Fr → World → Prop}
    (h : dOps P T w ops.toList ops.toList f fun f' => ∀ w', Ext w w' → K f' w') : DrawK P n ops f w K := by
  unfold DrawK
  intro id
  refine wp_region_quiet (C := fun w' => Ext w w') hm hB ?_ ?_
  · exact ⟨rfl, rfl, rfl, Nat.le_refl _, fun _ _ => rfl⟩
  · exact dOps_sound hT hok (Q := fun a' => ∀ w', Ext w w' → lift n K (fun _ _ _ => False) (fun _ _ => False) .normal a' w') (fun f' hk w' hw' => ⟨f', rfl, hk w' hw'⟩) _ f (fun _ ho => ho) h

section
variable {P : Program}
theorem DSemK.index {α : Type} {enc : α → List Value} {sz t : Nat} (ht : elemSize P t = some sz) {w : World} {a : Option Addr} {n c : Nat} {xs : List α} (h : Arr enc sz w a n xs) {i : Int} (k : Nat) (hi : i = k) {x : α} (hx : xs[k]? = some x) {kd : IntKind}
    {K : Value → Prop} (hK : ∀ b o, a = some ⟨b, o, none⟩ → Cells w b (o + k * sz) (enc x) → K (.pointer (some ⟨b, o + k * sz, none⟩))) : DSemK P (Instr.indexAt t (.slice a n c) (.int kd i)) w K := by
  obtain ⟨b, o, ha, hc⟩ := h.2.2 k x hx
  have hlt : k < n := by rw [← h.1]; exact (List.getElem?_eq_some_iff.1 hx).1
  subst ha
  exact DSemK.of (fun w' _ => SemK.indexOwn ht k hi hlt ⟨rfl, rfl⟩) (hK b o rfl hc)
theorem DSemK.load0 {ty : Nat} (hty : oneCell P ty = true) {w : World} {b o : Nat} {vs : List Value} (h : Cells w b o vs) {v : Value} (hk : vs[0]? = some v) {K : Value → Prop} (hK : K v) :
    DSemK P (Instr.loadAt ty (.pointer (some ⟨b, o, none⟩))) w K := DSemK.of (fun _ e => SemK.load1 hty (k := 0) (h.ext e) hk ⟨rfl, rfl⟩) hK
theorem DSemK.load1 {ty : Nat} (hty : oneCell P ty = true) {w : World} {b o k : Nat} {vs : List Value} (h : Cells w b o vs) {v : Value} (hk : vs[k]? = some v) {K : Value → Prop} (hK : K v) :
    DSemK P (Instr.loadAt ty (.pointer (some ⟨b, o + k, none⟩))) w K := DSemK.of (fun _ e => SemK.load1 hty (h.ext e) hk ⟨rfl, rfl⟩) hK
theorem DSemK.loadAgg {ty n : Nat} (hty : aggSize P ty = some n) {w : World} {b o : Nat} {vs : List Value} (h : Cells w b o vs) (hn : vs.length = n) {K : Value → Prop} (hK : K (.agg vs.toArray)) :
    DSemK P (Instr.loadAt ty (.pointer (some ⟨b, o, none⟩))) w K := DSemK.of (fun _ e => SemK.loadAgg hty (h.ext e) hn ⟨rfl, rfl⟩) hK
theorem DSemK.char {t : Nat} (ht : isStr P t = true) {s : ByteArray} {i : Int} {c : UInt8} (k : Nat) (hi : i = k) (hk : s.data.toList[k]? = some c) {kd : IntKind} {w : World} {K : Value → Prop} (hK : K (.int .u8 c.toNat)) :
    DSemK P (Instr.index t (.string s) (.int kd i)) w K := DSemK.of (fun _ _ => SemK.char ht k hi hk ⟨rfl, rfl⟩) hK
theorem DSemK.add {t : Nat} {X Y : Operand} {a b : Int} (r : Int) (hr : a + b = r) (h1 : -9223372036854775808 ≤ r) (h2 : r ≤ 9223372036854775807) {w : World} {K : Value → Prop} (hK : K (.int .i64 r)) :
    DSemK P (arith .add t X Y (.int .i64 a) (.int .i64 b)) w K := DSemK.of (fun _ _ => SemK.add r hr h1 h2 ⟨rfl, rfl⟩) hK
theorem DSemK.sub {t : Nat} {X Y : Operand} {a b : Int} (r : Int) (hr : a - b = r) (h1 : -9223372036854775808 ≤ r) (h2 : r ≤ 9223372036854775807) {w : World} {K : Value → Prop} (hK : K (.int .i64 r)) :
    DSemK P (arith .sub t X Y (.int .i64 a) (.int .i64 b)) w K := DSemK.of (fun _ _ => SemK.sub r hr h1 h2 ⟨rfl, rfl⟩) hK
theorem DSemK.mul {t : Nat} {X Y : Operand} {a b : Int} (r : Int) (hr : a * b = r) (h1 : -9223372036854775808 ≤ r) (h2 : r ≤ 9223372036854775807) {w : World} {K : Value → Prop} (hK : K (.int .i64 r)) :
    DSemK P (arith .mul t X Y (.int .i64 a) (.int .i64 b)) w K := DSemK.of (fun _ _ => SemK.mul r hr h1 h2 ⟨rfl, rfl⟩) hK
theorem DSemK.cat {t : Nat} {X Y : Operand} {a b : ByteArray} (hl : a.size + b.size ≤ 9223372036854775807) {w : World} {K : Value → Prop} (hK : K (.string (a ++ b))) :
    DSemK P (arith .add t X Y (.string a) (.string b)) w K := DSemK.of (fun _ _ => SemK.cat hl ⟨rfl, rfl⟩) hK
theorem DSemK.conv {s t : Nat} {k : IntKind} (ht : intKindOf P t = some k) (hs : (P.underlying s).isSome = true) {k0 : IntKind} {n : Int} (hw : k.wrap n = n) {w : World} {K : Value → Prop} (hK : K (.int k n)) :
    DSemK P (convert s t (.int k0 n)) w K := DSemK.of (fun _ _ => SemK.conv ht hs hw ⟨rfl, rfl⟩) hK
theorem SemK.load0 {ty : Nat} (hty : oneCell P ty = true) {w : World} {b o : Nat} {vs : List Value} (h : Cells w b o vs) {v : Value} (hk : vs[0]? = some v) {K : Value → World → Prop} (hK : K v w) :
    SemK P (Instr.loadAt ty (.pointer (some ⟨b, o, none⟩))) w K := SemK.load1 hty (k := 0) h hk hK
/-- list[l:h] of a slice: the value, in every world -/
theorem run_slice_arr {t sz : Nat} (ht : elemSize P t = some sz) {a : Option Addr} {n c l h : Nat} (hl : l ≤ h) (hh : h ≤ n) (hn : n ≤ c) {lo hi : Option Value} {k k' : IntKind} (hlo : (lo = none ∧ l = 0) ∨ lo = some (.int k l)) (hhi : (hi = none ∧ h = n) ∨ hi = some (.int k' h)) (w : World) :
    (Instr.sliceAt t (.slice a n c) lo hi none).run P w = .ok (.slice (if c = l then a else a.map (·.add (l * sz))) (h - l) (c - l)) w := by
  obtain ⟨e, inf, hu, hinf, hs⟩ := elemSize_slice ht
  have h5 : h ≤ c := by omega
  rcases hlo with ⟨rfl, rfl⟩ | rfl <;> rcases hhi with ⟨rfl, rfl⟩ | rfl <;>
    simp [Instr.sliceAt, Instr.slice, run_underlying hu, Instr.sliceBounds, Instr.sliceBound, asIntOf, sizeOf, typeInfo, hinf, hs, hl, h5]
theorem Arr.sub {α : Type} {enc : α → List Value} {sz : Nat} {w : World} {a : Option Addr} {n c l h : Nat} {xs : List α} (hA : Arr enc sz w a n xs) (hl : l ≤ h) (hh : h ≤ n) (hn : n ≤ c) :
    Arr enc sz w (if c = l then a else a.map (·.add (l * sz))) (h - l) ((xs.drop l).take (h - l)) := by
  obtain ⟨h1, h2, h3⟩ := hA
  refine ⟨by simp; omega, Nat.le_trans (Nat.sub_le _ _) (Nat.le_trans hh h2), fun i x hi => ?_⟩
  rw [List.getElem?_take] at hi
  split at hi
  · rename_i hlt
    rw [List.getElem?_drop] at hi
    obtain ⟨b, o, ha, hc⟩ := h3 _ _ hi
    have hcl : ¬ c = l := by omega
    rw [if_neg hcl, ha]
    refine ⟨b, o + l * sz, by simp [addr_add_none], ?_⟩
    rw [Nat.add_mul, ← Nat.add_assoc] at hc
    exact hc
  · cases hi
theorem SemK.slice {α : Type} {enc : α → List Value} {t sz : Nat} (ht : elemSize P t = some sz) {w : World} {a : Option Addr} {n c : Nat} {xs : List α} (hA : Arr enc sz w a n xs) (l h : Nat) (hl : l ≤ h) (hh : h ≤ n) (hn : n ≤ c) {lo hi : Option Value} {k k' : IntKind} (hlo : (lo = none ∧ l = 0) ∨ lo = some (.int k l)) (hhi : (hi = none ∧ h = n) ∨ hi = some (.int k' h))
    {K : Value → World → Prop} (hK : ∀ a', Arr enc sz w a' (h - l) ((xs.drop l).take (h - l)) → K (.slice a' (h - l) (c - l)) w) : SemK P (Instr.sliceAt t (.slice a n c) lo hi none) w K :=
  SemK.of (run_slice_arr ht hl hh hn hlo hhi w) (hK _ (hA.sub hl hh hn))
theorem DSemK.slice {α : Type} {enc : α → List Value} {t sz : Nat} (ht : elemSize P t = some sz) {w : World} {a : Option Addr} {n c : Nat} {xs : List α} (hA : Arr enc sz w a n xs) (l h : Nat) (hl : l ≤ h) (hh : h ≤ n) (hn : n ≤ c) {lo hi : Option Value} {k k' : IntKind} (hlo : (lo = none ∧ l = 0) ∨ lo = some (.int k l)) (hhi : (hi = none ∧ h = n) ∨ hi = some (.int k' h))
    {K : Value → Prop} (hK : ∀ a', Arr enc sz w a' (h - l) ((xs.drop l).take (h - l)) → K (.slice a' (h - l) (c - l))) : DSemK P (Instr.sliceAt t (.slice a n c) lo hi none) w K :=
  DSemK.of (fun w' _ => SemK.of (run_slice_arr ht hl hh hn hlo hhi w') ⟨rfl, rfl⟩) (hK _ (hA.sub hl hh hn))
end
end Go.Vc
