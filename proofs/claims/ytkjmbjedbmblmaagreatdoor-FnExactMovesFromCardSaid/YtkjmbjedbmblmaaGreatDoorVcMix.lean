/- Contracts of functions of the given program, of the reference and of the laws: each says what a call returns, for all arguments that meet the premises that the theorem itself names. -/
import Derived.Test.YtkjmbjedbmblmaaGreatDoorVcWrite
import Derived.Test.YtkjmbjedbmblmaaGreatDoorVcNest
import Derived.Test.YtkjmbjedbmblmaaGreatDoorVcBits
namespace Go.Vc
open Go Go.RowKit

/-! ### regions whose calls change one block, and which may end in writers -/
noncomputable def hOpsM (P : Program) (T : Tab) (n : Nat) (S : World → Prop) (all : List Oper) (os : List (Oper × Way)) : Fr → World → (Fr → World → Prop) → Prop :=
  List.rec (motive := fun _ => Fr → World → (Fr → World → Prop) → Prop) (fun f w K => K f w)
    (fun o _ ih f w K => vcGuard all o.1 f
      (fun f => match o.2 with
        | .any => pOne P T o.1 f fun f => ih f w K
        | .held => match o.1.op with
          | .load t x => BSemK P S (Instr.loadAt t (ev f x)) fun v => putK o.1.dst f v fun f => ih f w K
          | .index t x i => BSemK P S (Instr.index t (ev f x) (ev f i)) fun v => putK o.1.dst f v fun f => ih f w K
          | .convert s t x => BSemK P S (convert s t (ev f x)) fun v => putK o.1.dst f v fun f => ih f w K
          | .slice t x lo hi mx => BSemK P S (Instr.sliceAt t (ev f x) (lo.map (ev f)) (hi.map (ev f)) (mx.map (ev f))) fun v => putK o.1.dst f v fun f => ih f w K
          | .build t ⟨ps⟩ => BSemK P S (Instr.build t (ps.map fun p => (p.1, ev f p.2)).toArray) fun v => putK o.1.dst f v fun f => ih f w K
          | _ => False
        | .run => vcOne P T n o.1 f w fun f w' => S w' ∧ ih f w' K
        | .write => vcOne P T n o.1 f w fun f w' => ih f w' K
        | .alone => pOne P T o.1 f fun f => ih f w K)
      (fun f => putK o.1.dst f undef fun f => ih f w K)) os
theorem hOpsM_cons (P : Program) (T : Tab) (n : Nat) (S : World → Prop) (all : List Oper) (o : Oper × Way) (os : List (Oper × Way)) (f : Fr) (w : World) (K : Fr → World → Prop) :
    hOpsM P T n S all (o :: os) f w K = vcGuard all o.1 f
      (fun f => match o.2 with
        | .any => pOne P T o.1 f fun f => hOpsM P T n S all os f w K
        | .held => match o.1.op with
          | .load t x => BSemK P S (Instr.loadAt t (ev f x)) fun v => putK o.1.dst f v fun f => hOpsM P T n S all os f w K
          | .index t x i => BSemK P S (Instr.index t (ev f x) (ev f i)) fun v => putK o.1.dst f v fun f => hOpsM P T n S all os f w K
          | .convert s t x => BSemK P S (convert s t (ev f x)) fun v => putK o.1.dst f v fun f => hOpsM P T n S all os f w K
          | .slice t x lo hi mx => BSemK P S (Instr.sliceAt t (ev f x) (lo.map (ev f)) (hi.map (ev f)) (mx.map (ev f))) fun v => putK o.1.dst f v fun f => hOpsM P T n S all os f w K
          | .build t ⟨ps⟩ => BSemK P S (Instr.build t (ps.map fun p => (p.1, ev f p.2)).toArray) fun v => putK o.1.dst f v fun f => hOpsM P T n S all os f w K
          | _ => False
        | .run => vcOne P T n o.1 f w fun f w' => S w' ∧ hOpsM P T n S all os f w' K
        | .write => vcOne P T n o.1 f w fun f w' => hOpsM P T n S all os f w' K
        | .alone => pOne P T o.1 f fun f => hOpsM P T n S all os f w K)
      (fun f => putK o.1.dst f undef fun f => hOpsM P T n S all os f w K) := rfl
theorem hOpsM_sound {P : Program} {T : Tab} (hT : T.fok P = true) {n : Nat} {ops : Array Oper} (hok : okOps n ops = true) (hs : Region.noSelect ops = true) {S : World → Prop} {Q : Exit → Act → World → Prop} (hQp : ∀ c a w, ¬ Q (.panic c) a w) {K : Fr → World → Prop} (hQ : ∀ f w, K f w → Q .normal (act n f) w) :
    ∀ (plan : List (Nat × Way)) (d : Bool) (listed : Array Bool) (f : Fr) (w : World), closed ops listed → planW ops plan d listed = true → (d = false → S w) → hOpsM P T n S ops.toList (selW ops.toList plan) f w K →
      wpAnyW P .any ops (writeAt ops) Q S plan.length listed (act n f) w
  | [], d, listed, f, w, _, hB, _, h => by
    simp only [planW, List.isEmpty_iff] at hB
    exact wpAnyW_done hB (hQ f w h) _
  | (i, s) :: l, d, listed, f, w, hcl, hB, hw, h => by
    have hrd : i ∈ Region.ready .any ops listed := by
      cases s <;> simp only [planW, Bool.and_eq_true] at hB
      · simpa using hB.1.1
      · simpa using hB.1.1.1.1.1
      · have := hB.1.1; simp only [beq_iff_eq] at this; rw [this]; simp
      · have := hB.1.1; simp only [beq_iff_eq] at this; rw [this]; simp
      · have := hB.1; simp only [beq_iff_eq] at this; rw [this]; simp
    obtain ⟨_, o, h0, _⟩ := mem_ready.1 hrd
    have h0' : ops.toList[i]? = some o := by simpa using h0
    have hoki : okOper n ops o = true := by
      unfold okOps at hok
      rw [List.all_eq_true] at hok
      exact hok _ (List.mem_of_getElem? h0')
    have hsel : selW ops.toList ((i, s) :: l) = (o, s) :: selW ops.toList l := by
      unfold selW
      rw [List.filterMap_cons_some (b := (o, s)) (by simp [h0'])]
    rw [hsel, hOpsM_cons] at h
    have hg := vcGuard_sound hoki h
    have ih := fun (d : Bool) (hB' : planW ops l d (listed.setIfInBounds i true) = true) (f : Fr) (w : World) (hw : d = false → S w) (h : hOpsM P T n S ops.toList (selW ops.toList l) f w K) => hOpsM_sound hT hok hs hQp hQ l d (listed.setIfInBounds i true) f w (closed_set hcl hrd) hB' hw h
    -- taken first
    have take : ∀ {d' : Bool} {U : World → Prop} (v : Value), Region.free .any ops listed i = true → planW ops l d' (listed.setIfInBounds i true) = true → (d' = false → S w) →
        (∀ (j : Nat) (oj : Oper), ops[j]? = some oj → j ≠ i → j ∉ upF ops i ops.size → ∀ w w', (S w → writeAt ops j = false → S w') → U w → U w') → U w →
        (Region.wanted o (yielded ops (act n f).tmps) = true → ∀ w', U w' → (execOp (act n f).eval o).run P w' = .ok (.value v) w') → (Region.wanted o (yielded ops (act n f).tmps) = false → v = undef) →
        hOpsM P T n S ops.toList (selW ops.toList l) (put f o.dst v) w K → wpAnyW P .any ops (writeAt ops) Q S (l.length + 1) listed (act n f) w := by
      intro d' U v hf hB' hd hU hUw hv hv2 hk
      have hy : YieldsIf P ops U o v (act n f) := by
        cases hwn : Region.wanted o (yielded ops (act n f).tmps) with
        | true => exact .inl ⟨hwn, hv hwn⟩
        | false => exact .inr ⟨hwn, hv2 hwn⟩
      refine wpAnyW_first h0 (Region.noSelect_spec hs) hU (fun c a w hq => (hQp _ _ _ hq).elim) l.length listed (act n f) w hcl (Region.free_spec h0 hf) hrd hy hUw ?_
      rw [act_puto]
      exact ih d' hB' _ _ hd hk
    -- alone
    have alone : Region.ready .any ops listed = [i] → wpOp P ops Q i (fun a' w' => (S w → writeAt ops i = false → S w') ∧ wpAnyW P .any ops (writeAt ops) Q S l.length (listed.setIfInBounds i true) a' w') (act n f) w →
        wpAnyW P .any ops (writeAt ops) Q S (l.length + 1) listed (act n f) w := by
      intro hr hop
      refine ⟨fun h0 => (by rw [hr] at h0; cases h0), fun j hj => ?_⟩
      rw [hr] at hj
      simp only [List.mem_singleton] at hj
      subst hj
      exact hop
    cases s with
    | any =>
      simp only [planW, Bool.and_eq_true] at hB
      obtain ⟨⟨hr, hf⟩, hB'⟩ := hB
      split at hg
      · rename_i hwn
        obtain ⟨v, hv, hk⟩ := pOne_yields hT hoki hg
        exact take (U := fun _ => True) v hf hB' hw (fun _ _ _ _ _ _ _ _ _ => trivial) trivial (fun _ w' _ => hv w') (fun hf => by rw [hwn] at hf; cases hf) hk
      · rename_i hwn
        rw [putK_iff] at hg
        exact take (U := fun _ => True) undef hf hB' hw (fun _ _ _ _ _ _ _ _ _ => trivial) trivial (fun ht => absurd ht hwn) (fun _ => rfl) hg
    | held =>
      simp only [planW, Bool.and_eq_true, h0, Bool.not_eq_true'] at hB
      obtain ⟨⟨⟨⟨⟨hr, hf⟩, hd⟩, hwt⟩, hnc⟩, hB'⟩ := hB
      have hU : ∀ (j : Nat) (oj : Oper), ops[j]? = some oj → j ≠ i → j ∉ upF ops i ops.size → ∀ w w', (S w → writeAt ops j = false → S w') → S w → S w' := by
        intro j oj hj hji hno w w' hS hw
        refine hS hw ?_
        unfold waited at hwt
        rw [List.all_eq_true] at hwt
        have := hwt j (List.mem_range.2 (Array.getElem?_eq_some_iff.1 hj).1)
        simp only [Bool.or_eq_true, Bool.not_eq_true', List.contains_iff_mem] at this
        rcases this with h | h
        · exact h
        · exact absurd h hno
      have hin := hoki
      simp only [okOper, Bool.and_eq_true] at hin
      have hin := hin.1
      rw [List.all_eq_true] at hin
      split at hg
      · rename_i hwn
        dsimp only at hg
        split at hg
        · rename_i t x ho
          have hx : (act n f).eval x = ev f x := ev_act (hin x (by simp [ho, Op.operands]))
          unfold BSemK at hg
          obtain ⟨v, hv, hk⟩ := hg
          rw [putK_iff] at hk
          refine take (U := S) v hf hB' hw hU (hw hd) (fun _ w' hw' => ?_) (fun hf => by rw [hwn] at hf; cases hf) hk
          have hr := hv w' hw'
          unfold execOp
          simp only [ho, hx]
          simp [hr]
        · rename_i t x y ho
          have hx : (act n f).eval x = ev f x := ev_act (hin x (by simp [ho, Op.operands]))
          have hy : (act n f).eval y = ev f y := ev_act (hin y (by simp [ho, Op.operands]))
          unfold BSemK at hg
          obtain ⟨v, hv, hk⟩ := hg
          rw [putK_iff] at hk
          refine take (U := S) v hf hB' hw hU (hw hd) (fun _ w' hw' => ?_) (fun hf => by rw [hwn] at hf; cases hf) hk
          have hr := hv w' hw'
          unfold execOp
          simp only [ho, hx, hy]
          simp [hr]
        · rename_i s t x ho
          have hx : (act n f).eval x = ev f x := ev_act (hin x (by simp [ho, Op.operands]))
          unfold BSemK at hg
          obtain ⟨v, hv, hk⟩ := hg
          rw [putK_iff] at hk
          refine take (U := S) v hf hB' hw hU (hw hd) (fun _ w' hw' => ?_) (fun hf => by rw [hwn] at hf; cases hf) hk
          have hr := hv w' hw'
          unfold execOp
          simp only [ho, hx]
          simp [hr]
        · rename_i t x lo hi mx ho
          have hx : (act n f).eval x = ev f x := ev_act (hin x (by simp [ho, Op.operands]))
          have hlo : lo.map (act n f).eval = lo.map (ev f) := by
            cases lo with
            | none => rfl
            | some y => simp only [Option.map_some]; rw [ev_act (hin y (by simp [ho, Op.operands]))]
          have hhi : hi.map (act n f).eval = hi.map (ev f) := by
            cases hi with
            | none => rfl
            | some y => simp only [Option.map_some]; rw [ev_act (hin y (by simp [ho, Op.operands]))]
          have hmx : mx.map (act n f).eval = mx.map (ev f) := by
            cases mx with
            | none => rfl
            | some y => simp only [Option.map_some]; rw [ev_act (hin y (by simp [ho, Op.operands]))]
          unfold BSemK at hg
          obtain ⟨v, hv, hk⟩ := hg
          rw [putK_iff] at hk
          refine take (U := S) v hf hB' hw hU (hw hd) (fun _ w' hw' => ?_) (fun hf => by rw [hwn] at hf; cases hf) hk
          have hr := hv w' hw'
          unfold execOp
          simp only [ho, hx, hlo, hhi, hmx]
          simp [hr]
        · rename_i t ps ho
          have hps : (ps.map fun p : Nat × Operand => (p.1, (act n f).eval p.2)) = ps.map fun p => (p.1, ev f p.2) := List.map_congr_left fun p hp => by
            rw [ev_act (hin p.2 (by simp [ho, Op.operands]; exact ⟨p.1, hp⟩))]
          unfold BSemK at hg
          obtain ⟨v, hv, hk⟩ := hg
          rw [putK_iff] at hk
          refine take (U := S) v hf hB' hw hU (hw hd) (fun _ w' hw' => ?_) (fun hf => by rw [hwn] at hf; cases hf) hk
          have hr := hv w' hw'
          unfold execOp
          simp only [ho]
          simp [hps, hr]
        · exact hg.elim
      · rename_i hwn
        rw [putK_iff] at hg
        exact take (U := S) undef hf hB' hw hU (hw hd) (fun ht => absurd ht hwn) (fun _ => rfl) hg
    | run =>
      simp only [planW, Bool.and_eq_true, Bool.not_eq_true', beq_iff_eq] at hB
      obtain ⟨⟨hr, hd⟩, hB'⟩ := hB
      refine alone hr ?_
      split at hg
      · rename_i hwn
        unfold wpOp
        simp only [h0, hwn, if_true]
        exact .inl (vcOne_sound hT hoki hg fun f w' hk => ⟨fun _ _ => hk.1, ih d hB' _ _ (fun _ => hk.1) hk.2⟩)
      · rename_i hwn
        rw [putK_iff] at hg
        have hy : YieldsIf P ops (fun _ => True) o undef (act n f) := .inr ⟨by simpa using hwn, rfl⟩
        refine hy.wpOp h0 trivial ⟨fun h _ => h, ?_⟩
        rw [act_puto]
        exact ih d hB' _ _ hw hg
    | write =>
      simp only [planW, Bool.and_eq_true, beq_iff_eq] at hB
      obtain ⟨⟨hr, hwr⟩, hB'⟩ := hB
      refine alone hr ?_
      split at hg
      · rename_i hwn
        unfold wpOp
        simp only [h0, hwn, if_true]
        exact .inl (vcOne_sound hT hoki hg fun f w' hk => ⟨fun _ h => by rw [hwr] at h; (cases h), ih true hB' _ _ (fun h => by cases h) hk⟩)
      · rename_i hwn
        rw [putK_iff] at hg
        have hy : YieldsIf P ops (fun _ => True) o undef (act n f) := .inr ⟨by simpa using hwn, rfl⟩
        refine hy.wpOp h0 trivial ⟨fun h _ => h, ?_⟩
        rw [act_puto]
        exact ih true hB' _ _ (fun h => by cases h) hg
    | alone =>
      simp only [planW, Bool.and_eq_true, beq_iff_eq] at hB
      obtain ⟨hr, hB'⟩ := hB
      refine alone hr ?_
      split at hg
      · rename_i hwn
        obtain ⟨v, hv, hk⟩ := pOne_yields hT hoki hg
        have hy : YieldsIf P ops (fun _ => True) o v (act n f) := .inl ⟨hwn, fun w' _ => hv w'⟩
        refine hy.wpOp h0 trivial ⟨fun h _ => h, ?_⟩
        rw [act_puto]
        exact ih d hB' _ _ hw hk
      · rename_i hwn
        rw [putK_iff] at hg
        have hy : YieldsIf P ops (fun _ => True) o undef (act n f) := .inr ⟨by simpa using hwn, rfl⟩
        refine hy.wpOp h0 trivial ⟨fun h _ => h, ?_⟩
        rw [act_puto]
        exact ih d hB' _ _ hw hg

/-- the blocks of a alone may have turned -/
def Sr (a : Option Addr) (w : World) : World → Prop := fun w' => Mod (blkIn a) w w'
theorem Sr.cells {a : Option Addr} {b o : Nat} {w : World} {vs : List Value} (h : Cells w b o vs) (hne : ¬ blkIn a b) : ∀ w', Sr a w w' → Cells w' b o vs := fun _ hw => h.mod hw hne
theorem BSemK.load1 {P : Program} {S : World → Prop} {ty : Nat} (hty : oneCell P ty = true) {b o k : Nat} {vs : List Value} (h : ∀ w', S w' → Cells w' b o vs) {v : Value} (hk : vs[k]? = some v) {K : Value → Prop} (hK : K v) :
    BSemK P S (Instr.loadAt ty (.pointer (some ⟨b, o + k, none⟩))) K := BSemK.of (fun w' hw => SemK.load1 hty (h w' hw) hk ⟨rfl, rfl⟩) hK
theorem PSemK.wmul {P : Program} {t : Nat} {X Y : Operand} {a b : Int} {k : IntKind} {K : Value → Prop} (hK : K (.int k (k.wrap (a * b)))) :
    PSemK P (arith .mul t X Y (.int k a) (.int k b)) K := PSemK.of (fun _ => SemK.wmul ⟨rfl, rfl⟩) hK
theorem PSemK.wadd {P : Program} {t : Nat} {X Y : Operand} {a b : Int} {k : IntKind} {K : Value → Prop} (hK : K (.int k (k.wrap (a + b)))) :
    PSemK P (arith .add t X Y (.int k a) (.int k b)) K := PSemK.of (fun _ => SemK.wadd ⟨rfl, rfl⟩) hK
theorem PSemK.wsub {P : Program} {t : Nat} {X Y : Operand} {a b : Int} {k : IntKind} {K : Value → Prop} (hK : K (.int k (k.wrap (a - b)))) :
    PSemK P (arith .sub t X Y (.int k a) (.int k b)) K := PSemK.of (fun _ => SemK.wsub ⟨rfl, rfl⟩) hK
theorem PSemK.and {P : Program} {t : Nat} {X Y : Operand} {a b : Int} {k : IntKind} {K : Value → Prop} (hK : K (.int k (andV k a b))) :
    PSemK P (arith .and t X Y (.int k a) (.int k b)) K := PSemK.of (fun _ => SemK.and ⟨rfl, rfl⟩) hK
theorem PSemK.or {P : Program} {t : Nat} {X Y : Operand} {a b : Int} {k : IntKind} {K : Value → Prop} (hK : K (.int k (orV k a b))) :
    PSemK P (arith .or t X Y (.int k a) (.int k b)) K := PSemK.of (fun _ => SemK.or ⟨rfl, rfl⟩) hK
theorem PSemK.xor {P : Program} {t : Nat} {X Y : Operand} {a b : Int} {k : IntKind} {K : Value → Prop} (hK : K (.int k (xorV k a b))) :
    PSemK P (arith .xor t X Y (.int k a) (.int k b)) K := PSemK.of (fun _ => SemK.xor ⟨rfl, rfl⟩) hK
theorem PSemK.andNot {P : Program} {t : Nat} {X Y : Operand} {a b : Int} {k : IntKind} {K : Value → Prop} (hK : K (.int k (andNotV k a b))) :
    PSemK P (arith .andNot t X Y (.int k a) (.int k b)) K := PSemK.of (fun _ => SemK.andNot ⟨rfl, rfl⟩) hK
theorem PSemK.shr {P : Program} {t : Nat} {X Y : Operand} {a b : Int} {k k' : IntKind} (hb : 0 ≤ b) {K : Value → Prop} (hK : K (.int k (a.fdiv (2 ^ min b.toNat k.bits)))) :
    PSemK P (arith .shr t X Y (.int k a) (.int k' b)) K := PSemK.of (fun _ => SemK.shr hb ⟨rfl, rfl⟩) hK
theorem PSemK.shl {P : Program} {t : Nat} {X Y : Operand} {a b : Int} {k k' : IntKind} (hb : 0 ≤ b) {K : Value → Prop} (hK : K (.int k (k.wrap (a * 2 ^ min b.toNat k.bits)))) :
    PSemK P (arith .shl t X Y (.int k a) (.int k' b)) K := PSemK.of (fun _ => SemK.shl hb ⟨rfl, rfl⟩) hK
theorem BSemK.build {P : Program} {S : World → Prop} {t : Nat} {zs : List Value} {pl : List (Nat × Nat)} (h : stInfo P t = some (zs, pl)) {parts : List (Nat × Value)} {out : List Value} (ho : fillL pl zs parts = some out) {K : Value → Prop} (hK : K (.agg ⟨out⟩)) :
    BSemK P S (Instr.build t parts.toArray) K := BSemK.of (fun _ _ => SemK.build h ho ⟨rfl, rfl⟩) hK
theorem BSemK.char {P : Program} {S : World → Prop} {t : Nat} (ht : isStr P t = true) {s : ByteArray} {i : Int} {c : UInt8} (k : Nat) (hi : i = k) (hk : s.data.toList[k]? = some c) {kd : IntKind} {K : Value → Prop} (hK : K (.int .u8 c.toNat)) :
    BSemK P S (Instr.index t (.string s) (.int kd i)) K := BSemK.of (fun _ _ => SemK.char ht k hi hk ⟨rfl, rfl⟩) hK
theorem BSemK.conv {P : Program} {S : World → Prop} {s t : Nat} {k : IntKind} (ht : intKindOf P t = some k) (hs : (P.underlying s).isSome = true) {k0 : IntKind} {n : Int} (hw : k.wrap n = n) {K : Value → Prop} (hK : K (.int k n)) :
    BSemK P S (convert s t (.int k0 n)) K := BSemK.of (fun _ _ => SemK.conv ht hs hw ⟨rfl, rfl⟩) hK
/-- A REGION THAT DRAWS ITS ORDER, WHOSE CALLS ALL CHANGE THE BLOCKS OF a ALONE, by a plan: what is read lies elsewhere -/
theorem DrawK.mix {P : Program} {T : Tab} (hT : T.fok P = true) (hm : P.follows .mixedOrders = true) {n : Nat} {ops : Array Oper} (a : Option Addr) (plan : List (Nat × Way)) (hok : okOps n ops = true) (hB : heldW ops plan = true) {f : Fr} {w : World} {K : Fr → World → Prop}
    (h : ∀ w1, Ext w w1 → hOpsM P T n (Sr a w1) ops.toList (selW ops.toList plan) f w1 K) : DrawK P n ops f w K := by
  unfold DrawK
  intro id
  simp only [heldW, Bool.and_eq_true] at hB
  obtain ⟨⟨hs, hl⟩, hB⟩ := hB
  have e1 : Ext w { w with drawn := w.drawn + 1 } := ⟨rfl, rfl, rfl, Nat.le_refl _, fun _ _ => rfl⟩
  refine wp_region_any hm (wpAnyW_any (W := writeAt ops) (S := Sr a { w with drawn := w.drawn + 1 }) _ _ _ _ ?_)
  have := hOpsM_sound hT hok hs (Q := lift n K (fun _ _ _ => False) (fun _ _ => False)) (fun c a w hq => hq.elim) (fun f w hk => ⟨f, rfl, hk⟩) plan false _ f _ (closed_none ops) hB (fun _ => Mod.refl _ _) (h _ e1)
  rw [Nat.eq_of_beq_eq_true hl] at this
  exact this
end Go.Vc
