/- Laws of strings, of numbers that are cut off, of bytes, for every program; each with the premises that it names. -/
import Derived.Laws.Small
import Derived.Test.YtkjmbjedbmblmaaGreatDoorVcApp
import Derived.Lib.ConvBytes
import Derived.Lib.AtoiErrMem
import Derived.WideLaws
import Derived.Lib.AppendStr
namespace Go.Vc
open Go Go.RowKit
section
variable {P : Program}
theorem Grow.eq_ {α : Type} {enc : α → List Value} {sz B e : Nat} {w : World} {a : Option Addr} {n c : Nat} {xs ys : List α} (h : Grow enc sz B e w a n c xs) (he : xs = ys) : Grow enc sz B e w a n c ys := he ▸ h
theorem Arr.at_ {α : Type} {enc : α → List Value} {sz : Nat} {w : World} {a : Option Addr} {n : Nat} {xs : List α} (h : Arr enc sz w a n xs) {k : Nat} {x : α} (hx : xs[k]? = some x) {b o : Nat} (ha : a = some ⟨b, o, none⟩) : Cells w b (o + k * sz) (enc x) := by
  obtain ⟨b', o', ha', hc⟩ := h.2.2 k x hx
  rw [ha] at ha'
  cases ha'
  exact hc
theorem isStr_u {t : Nat} (h : isStr P t = true) : P.underlying t = some .string := by
  unfold isStr at h
  split at h <;> simp_all
/-- s[l:h] -/
theorem run_slice_str {t : Nat} (ht : isStr P t = true) {s : ByteArray} {l h : Nat} (hl : l ≤ h) (hh : h ≤ s.size) {lo hi : Option Value} {k k' : IntKind} (hlo : (lo = none ∧ l = 0) ∨ lo = some (.int k l)) (hhi : (hi = none ∧ h = s.size) ∨ hi = some (.int k' h)) (w : World) :
    (Instr.sliceAt t (.string s) lo hi none).run P w = .ok (.string (s.extract l h)) w := by
  have hu := isStr_u ht
  rw [run_sliceAt_string w t _ _ _ _ hu]
  rcases hlo with ⟨rfl, rfl⟩ | rfl <;> rcases hhi with ⟨rfl, rfl⟩ | rfl
  · exact run_slice_string_all w t s hu
  · rw [run_slice_string_h w t s hu _ _ (by omega) (by omega)]; simp
  · rw [run_slice_string_l w t s hu _ _ (by omega) (by omega)]; simp
  · rw [run_slice_string w t s _ _ _ _ hu (by omega) (by omega) (by omega)]; simp
theorem SemK.sliceStr {t : Nat} (ht : isStr P t = true) {s : ByteArray} (l h : Nat) (hl : l ≤ h) (hh : h ≤ s.size) {lo hi : Option Value} {k k' : IntKind} (hlo : (lo = none ∧ l = 0) ∨ lo = some (.int k l)) (hhi : (hi = none ∧ h = s.size) ∨ hi = some (.int k' h)) {w : World} {K : Value → World → Prop}
    (hK : K (.string (s.extract l h)) w) : SemK P (Instr.sliceAt t (.string s) lo hi none) w K := SemK.of (run_slice_str ht hl hh hlo hhi w) hK
theorem DSemK.sliceStr {t : Nat} (ht : isStr P t = true) {s : ByteArray} (l h : Nat) (hl : l ≤ h) (hh : h ≤ s.size) {lo hi : Option Value} {k k' : IntKind} (hlo : (lo = none ∧ l = 0) ∨ lo = some (.int k l)) (hhi : (hi = none ∧ h = s.size) ∨ hi = some (.int k' h)) {w : World} {K : Value → Prop}
    (hK : K (.string (s.extract l h))) : DSemK P (Instr.sliceAt t (.string s) lo hi none) w K := DSemK.of (fun w' _ => SemK.of (run_slice_str ht hl hh hlo hhi w') ⟨rfl, rfl⟩) hK
theorem extract_bs (s : ByteArray) (l h : Nat) : s.extract l h = bs ((s.data.toList.drop l).take (h - l)) := by
  have e := ByteArray.extract_mk s.data.toList l h
  have e2 : ByteArray.mk s.data.toList.toArray = s := by obtain ⟨⟨x⟩⟩ := s; rfl
  rw [e2] at e
  exact e
theorem extract_size (s : ByteArray) (l h : Nat) (hh : h ≤ s.size) : (s.extract l h).size = h - l := by
  rw [extract_bs, bs_size]
  have : s.data.toList.length = s.size := by simp
  simp only [List.length_take, List.length_drop]
  omega
theorem sizeC (l : List UInt8) : (ByteArray.mk ⟨l⟩).size = l.length := rfl
theorem sizeT (l : List UInt8) : (ByteArray.mk l.toArray).size = l.length := rfl
/-- the quotient, cut off at 0, and what is left, by a number above 0 -/
theorem SemK.quoT {t : Nat} {X Y : Operand} {a b : Int} (h1 : -9223372036854775808 ≤ a) (h2 : a ≤ 9223372036854775807) (hb : 2 ≤ b) {w : World} {K : Value → World → Prop} (hK : K (.int .i64 (a.tdiv b)) w) :
    SemK P (arith .quo t X Y (.int .i64 a) (.int .i64 b)) w K := by
  refine SemK.of ?_ hK
  have hz : ¬ b = 0 := by omega
  have h3 : (a.tdiv b).natAbs ≤ a.natAbs / 2 := by
    rw [Int.natAbs_tdiv]
    exact Nat.div_le_div_left (by omega) (by omega)
  have h4 : 0 ≤ a → 0 ≤ a.tdiv b := fun h => Int.tdiv_nonneg h (by omega)
  have := IntWalk.i64_in (a.tdiv b) ⟨by omega, by omega⟩
  simp [arith, eqGuard_int, binOp, Op.intDiv, hz, this]
theorem SemK.remT {t : Nat} {X Y : Operand} {a b : Int} (hb : 0 < b) {w : World} {K : Value → World → Prop} (hK : K (.int .i64 (a.tmod b)) w) :
    SemK P (arith .rem t X Y (.int .i64 a) (.int .i64 b)) w K := by
  refine SemK.of ?_ hK
  have hz : ¬ b = 0 := by omega
  simp [arith, eqGuard_int, binOp, Op.intDiv, hz]
theorem SemK.neg {a : Int} (r : Int) (hr : -a = r) (h1 : -9223372036854775808 ≤ r) (h2 : r ≤ 9223372036854775807) {w : World} {K : Value → World → Prop} (hK : K (.int .i64 r) w) :
    SemK P (Op.unary .neg (.int .i64 a)) w K := by
  refine SemK.of ?_ hK
  have := IntWalk.i64_in r ⟨h1, h2⟩
  have e : 0 - a = r := by omega
  simp [Op.unary, Op.intArith, e, this]
theorem SemK.subK {t : Nat} {X Y : Operand} {k : IntKind} {a b : Int} (r : Int) (hr : a - b = r) (hw : k.wrap r = r) {w : World} {K : Value → World → Prop} (hK : K (.int k r) w) :
    SemK P (arith .sub t X Y (.int k a) (.int k b)) w K := by
  refine SemK.of ?_ hK
  simp [arith, eqGuard_int, binOp, Op.intArith, hr, hw]
theorem u8_wrap {n : Int} (h0 : 0 ≤ n) (h1 : n ≤ 255) : IntKind.u8.wrap n = n := by
  simp [IntKind.wrap, IntKind.bits, IntKind.signed]
  omega
/-- []byte(s) -/
theorem SemK.toBytes {s t e : Nat} {src : ByteArray} (hs : isStr P s = true) (ht : P.underlying t = some (.slice e)) (he : P.underlying e = some (.int .u8)) (hm : src.size ≤ 9223372036854775807) {w : World} {K : Value → World → Prop}
    (hK : ∀ b c w', w.heap.size ≤ b → b < w'.heap.size → Ext w w' → Arr eB 1 w' (some ⟨b, 0, none⟩) src.size src.data.toList → K (.slice (some ⟨b, 0, none⟩) src.size c) w') :
    SemK P (convert s t (.string src)) w K := by
  have hr := Lib.run_convert_string_bytes w s t e src (isStr_u hs) ht he
  have hsz : src.data.toList.length = src.size := by simp
  have hx : Ext w (Lib.bytesWorld w e src) := Lib.bytesWorld_below w e src
  refine SemK.of hr (hK _ _ _ (Nat.le_refl _) ?_ hx ⟨hsz, hm, fun i x hi => ⟨_, _, rfl, ?_⟩⟩)
  · show w.heap.size < (Lib.bytesWorld w e src).heap.size
    unfold Lib.bytesWorld
    simp [World.freeze, World.alloc]
  · intro j v hv
    cases j with
    | zero =>
      simp only [eB, List.getElem?_cons_zero, Option.some.injEq] at hv
      subst hv
      have hlt : i < src.size := by rw [← hsz]; exact (List.getElem?_eq_some_iff.1 hi).1
      have := Lib.bytesWorld_cell w e src i hlt
      rw [List.getD_eq_getElem?_getD, hi] at this
      simpa using this
    | succ j => simp [eB] at hv
theorem flat_eB_str (s : ByteArray) : flat eB s.data.toList = Lib.strCells s := by
  rw [flat_eB]
  rfl
/-- append(bytes, s...) -/
theorem SemK.appendStr {t u e B : Nat} (ht : mkInfo P t = some (e, [.int .u8 0], 1)) (hze : (P.info? e).bind (·.zero) = some (.int .u8 0)) (hu : isStr P u = true) {w : World} {a : Option Addr} {n c : Nat} {l : List UInt8} (h : Grow eB 1 B e w a n c l) {s : ByteArray} (hsm : n + s.size ≤ 140737488355328) (hB : B ≤ w.heap.size) {ty : Nat} {cs : Array Bool} {K : Next → World → Prop}
    (hK : ∀ a' c' w', Grow eB 1 B e w' a' (n + s.size) c' (l ++ s.data.toList) → Mod (blkIn a) w w' → K (.value (.slice a' (n + s.size) c')) w') :
    SemK P (builtin .append #[t, u] ty cs #[.slice a n c, .string s]) w K := by
  obtain ⟨i, z, hut, hi, hz, hzs, hbb, hs, hp⟩ := mkInfo_spec ht
  obtain ⟨h1, h2⟩ := h
  have hz0 : z = .int .u8 0 := by
    rw [hi] at hze
    simp only [Option.bind_some] at hze
    rw [hz] at hze
    exact Option.some.inj hze
  subst hz0
  have hs1 : i.size = 1 := by rw [← hs]; rfl
  obtain ⟨v', w', hr, hown, hg, _⟩ := Lib.run_append_own_string (P := P) w B t u ty e i hut (isStr_u hu) hi hz hs1 hbb (.slice a n c) n (flat eB l) h2 s (by simp only [maxLen]; omega) hsm hB
  have hv' : ∃ a' c', v' = .slice a' (n + s.size) c' := by
    rcases hown.2 with ⟨rfl, hn⟩ | ⟨g, cap, cur, rfl, _⟩
    · exact ⟨none, 0, by rw [hn]⟩
    · exact ⟨_, _, rfl⟩
  obtain ⟨a', c2, rfl⟩ := hv'
  have hsz : s.data.toList.length = s.size := by simp
  refine SemK.of (v := .value (.slice a' (n + s.size) c2)) (w' := w') ?_ (hK a' c2 w' ⟨by simp [h1], by rw [flat_append, flat_eB_str]; exact hown⟩ ?_)
  · simp only [builtin, Sem.run_bind, hr, Result.andThen_ok]; rfl
  · refine ⟨hg.os, hg.tape, hg.output, hg.size, fun k hk hlt => hg.block k hlt fun hrow => hk ?_⟩
    cases a with
    | none => simp [Value.ownBlock] at hrow
    | some x =>
      simp only [Value.ownBlock, Option.some.injEq] at hrow
      exact ⟨x, rfl, hrow⟩
/-- an interface type, by its description -/
def isIface (P : Program) (t : Nat) : Bool := match P.underlying t with | some (.interface _) => true | _ => false
theorem isIface_u {t : Nat} (h : isIface P t = true) : P.underlying t = some (.interface (P.methodsAt t)) := by
  unfold isIface at h
  unfold Program.methodsAt
  split at h
  · rename_i m hm; rw [hm]
  · cases h
/-- err != nil -/
theorem SemK.neqNilN {t : Nat} (ht : isIface P t = true) {x : Operand} {w : World} {K : Value → World → Prop} (hK : K (.bool false) w) : SemK P (arith .neq t x (.const .nilIface) .nilIface .nilIface) w K := by
  refine SemK.of ?_ hK
  simp [arith, eqGuard, run_neq_nil_nil w t (isIface_u ht)]
theorem SemK.neqNilI {t d : Nat} (ht : isIface P t = true) {z : Value} {x : Operand} {w : World} {K : Value → World → Prop} (hK : K (.bool true) w) : SemK P (arith .neq t x (.const .nilIface) (.iface d z) .nilIface) w K := by
  refine SemK.of ?_ hK
  simp [arith, eqGuard, run_neq_held_nil w t d z (isIface_u ht)]
end
theorem addr_add0 (a : Addr) : a.add 0 = a := by
  unfold Addr.add
  rfl
theorem SemK.sliceTo {P : Program} {α : Type} {enc : α → List Value} {t sz : Nat} (ht : elemSize P t = some sz) {w : World} {a : Option Addr} {n c : Nat} {xs : List α} (hA : Arr enc sz w a n xs) (h : Nat) (hh : h ≤ n) (hn : n ≤ c) {hi : Option Value} {k' : IntKind} (hhi : (hi = none ∧ h = n) ∨ hi = some (.int k' h))
    {K : Value → World → Prop} (hK : Arr enc sz w a h (xs.take h) → K (.slice a h c) w) : SemK P (Instr.sliceAt t (.slice a n c) none hi none) w K := by
  refine SemK.of (run_slice_arr (k := .i64) ht (Nat.zero_le h) hh hn (.inl ⟨rfl, rfl⟩) hhi w) ?_
  have e : (if c = 0 then a else a.map (·.add (0 * sz))) = a := by
    split
    · rfl
    · rw [Nat.zero_mul]
      cases a with
      | none => rfl
      | some x => simp [addr_add0]
  rw [e]
  refine hK ⟨?_, ?_, fun i x hi => ?_⟩
  · rw [List.length_take, hA.1]; omega
  · have := hA.2.1; omega
  · rw [List.getElem?_take] at hi
    split at hi
    · exact hA.2.2 i x hi
    · cases hi
def isBoolT (P : Program) (t : Nat) : Bool := match P.underlying t with | some .bool => true | _ => false
theorem isBoolT_u {P : Program} {t : Nat} (h : isBoolT P t = true) : P.underlying t = some .bool := by
  unfold isBoolT at h
  split at h
  · rename_i hm; exact hm
  · cases h
theorem SemK.neqB {P : Program} {t : Nat} (ht : isBoolT P t = true) {X Y : Operand} {x y : Bool} {w : World} {K : Value → World → Prop} (hK : K (.bool (!(x == y))) w) : SemK P (arith .neq t X Y (.bool x) (.bool y)) w K := by
  refine SemK.of ?_ hK
  simp [arith, eqGuard, run_neq_bool w t x y (isBoolT_u ht)]
theorem SemK.eqlB {P : Program} {t : Nat} (ht : isBoolT P t = true) {X Y : Operand} {x y : Bool} {w : World} {K : Value → World → Prop} (hK : K (.bool (x == y)) w) : SemK P (arith .eql t X Y (.bool x) (.bool y)) w K := by
  refine SemK.of ?_ hK
  simp [arith, eqGuard, run_eql_bool w t x y (isBoolT_u ht)]
end Go.Vc
