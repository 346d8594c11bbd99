/- From the walk of a law to the step of its row: a law that returns true and leaves old memory alone meets the row; with the premises that the theorem names. -/
import Derived.Test.YtkjmbjedbmblmaaGreatDoorVcFlat
import Derived.ProofKit
import Derived.OpenShut
import Derived.ChangeOld
import Derived.Deep.Slices
namespace Go.Vc
open Go Go.RowKit Go.ChangeShapes Go.WideShapes

section
variable {H : Type} {enc : TypeId × Value → H} {P : Program}

theorem trodAll_lt {W : World} : ∀ (ts : List TypeId) (vs : List Value) (ds : List (DataW H)) (ps : List MemPlace), DataW.TrodAll enc P W 0 (fun _ => true) true ts vs ds ps → ∀ x ∈ ps, x.block < W.heap.size
  | [], vs, ds, ps, h => by obtain ⟨_, _, rfl⟩ := trodAll_nil h; intro x hx; cases hx
  | t :: ts, vs, ds, ps, h => by
    obtain ⟨v, vs', d, ds', p, q, rfl, rfl, rfl, ⟨m, hm⟩, h1⟩ := trodAll_cons h
    intro x hx
    rcases List.mem_append.1 hx with hx | hx
    · exact DataW.trod_lt m _ _ _ hm x hx
    · exact trodAll_lt ts vs' ds' q h1 x hx
theorem trodAll_stays {W W' : World} (hl : laidOutB P = true) (hb : Ext W W') : ∀ (ts : List TypeId) (vs : List Value) (ds : List (DataW H)) (ps : List MemPlace), (ts.all fun t => P.readableRec t && decide (t < P.types.size)) = true →
    DataW.TrodAll enc P W 0 (fun _ => true) true ts vs ds ps → DataW.TrodAll enc P W' 0 (fun b => decide (b < W.heap.size)) true ts vs ds ps
  | [], vs, ds, ps, _, h => by obtain ⟨rfl, rfl, rfl⟩ := trodAll_nil h; exact trodAll_mk0
  | t :: ts, vs, ds, ps, hr, h => by
    obtain ⟨v, vs', d, ds', p, q, rfl, rfl, rfl, h0, h1⟩ := trodAll_cons h
    simp only [List.all_cons, Bool.and_eq_true, decide_eq_true_eq] at hr
    refine trodAll_cons_mk (Below.trod hl hr.1.1 hr.1.2 h0 hb ?_) (trodAll_stays hl hb ts vs' ds' q hr.2 h1)
    obtain ⟨m, hm⟩ := h0
    exact fun x hx => DataW.trod_lt m _ _ _ hm x hx

/-- FROM A LAW's WALK TO ITS ROW's STEP: a law whose walk returns true and leaves what was there as it was -/
theorem law_contract {fn : Func} {s : ChangeSpec} {g tb base : Nat} (hvars : s.vars = []) (hres : fn.resultTypes = #[tb]) (hbool : P.underlying tb = some .bool) (hl : laidOutB P = true)
    (hread : (fn.params.toList.all fun t => P.readableRec t && decide (t < P.types.size)) = true)
    (hspec : ∀ ds : List (DataW H), ds.length = fn.params.toList.length → (s.fn H (ds ++ [])).results = [.lit (.bool true)] ∧ (s.fn H (ds ++ [])).args = ds ∧ (s.fn H (ds ++ [])).vars = [])
    (walk : ∀ (W : World) (args : List Value) (ds : List (DataW H)) (p : List MemPlace), DataW.TrodAll enc P W 0 (fun _ => true) true fn.params.toList args ds p → (∀ (j : Nat) t v, fn.params[j]? = some t → args[j]? = some v → Value.okWide P W .any base t v) →
      Does P g args W (fun v w' => v = .bool true ∧ Ext W w'))
    (W : World) (args : Array Value) (ds gs : List (DataW H)) (before : List MemPlace)
    (hval : ∀ (j : Nat) t v, fn.params[j]? = some t → args[j]? = some v → Value.okWide P W .any base t v)
    (hW : DataW.Whole enc P fn.params.toList s.vars false W args.toList ds gs before) :
    Calls P g args W fun e W' => ∃ v, e = .returned v ∧ s.post enc P fn false true false false W args v W' := by
  have hW' := hW
  obtain ⟨p, q, hA, hV, rfl, hfz, hnd⟩ := hW
  rw [hvars] at hV
  obtain ⟨rfl, rfl⟩ := trodVars_none hV
  have hd := walk W args.toList ds p hA (fun j t v h1 h2 => hval j t v h1 (by simpa using h2))
  have hc := hd.calls
  simp only [Array.toArray_toList] at hc
  refine hc.mono fun e W' ⟨v, he, hv, hE⟩ => ⟨v, he, ?_⟩
  subst hv
  have hlen : ds.length = fn.params.toList.length := by
    have : ∀ (ts : List TypeId) (vs : List Value) (ds : List (DataW H)) (ps : List MemPlace), DataW.TrodAll enc P W 0 (fun _ => true) true ts vs ds ps → ds.length = ts.length := by
      intro ts
      induction ts with
      | nil => intro vs ds ps h; obtain ⟨_, rfl, _⟩ := trodAll_nil h; rfl
      | cons t ts ih =>
        intro vs ds ps h
        obtain ⟨v, vs', d, ds', p, q, rfl, rfl, rfl, h0, h1⟩ := trodAll_cons h
        simp [ih _ _ _ h1]
    exact this _ _ _ _ hA
  obtain ⟨e1, e2, e3⟩ := hspec ds hlen
  refine ⟨ds, [], _, [], p, [], hW', ?_, ?_, ?_, hE.frame _, fun h => by cases h⟩
  · rw [e1, hres]
    exact trodAll_mk1 (shut_bool hbool _)
  · rw [e2]
    exact trodAll_stays hl hE _ _ _ _ hread hA
  · rw [e3, hvars]; rfl

theorem trod_flat {W : World} {base : Nat} {spare : Nat → Bool} {held : Bool} {t fuel : Nat} {ks : List Bool} (hk : flatKinds P t = some ks) {cs : List Value} {x : DataW H × List MemPlace} (h : DataW.trod enc P W base spare held fuel t cs = some x) : Flat ks cs := by
  unfold flatKinds at hk
  split at hk <;> try cases hk
  rename_i fs hu
  rw [Option.bind_eq_some_iff] at hk
  obtain ⟨l, hm, hk⟩ := hk
  split at hk <;> try cases hk
  rename_i hsz
  obtain ⟨xs, n, _, _, hlen, hxs, hf⟩ := DataW.trod_struct hu h
  refine flat_of (by rw [hlen, hsz]) fun i k hi => ?_
  have hlt : i < ks.length := (List.getElem?_eq_some_iff.1 hi).1
  have hll : ks.length = fs.toList.zipIdx.length := mapM_some_length hm
  have hfi : fs.toList.zipIdx[i]? = some (fs.toList[i]'(by simp at hll; simp; omega), i) := by
    rw [List.getElem?_zipIdx]
    simp
  have hg := mapM_some_get hm i _ hfi
  rw [hi] at hg
  have hfs : fs[i]? = some (fs.toList[i]'(by simp at hll; simp; omega)) := by simp
  have hti := hf i _ hfs
  unfold fieldKind at hg
  simp only at hg
  split at hg <;> try cases hg
  rename_i ho
  rw [ho.1, ho.2] at hti
  have hx : ∃ y, xs[i]? = some y := ⟨_, List.getElem?_eq_getElem (by simp at hll; omega)⟩
  obtain ⟨y, hy⟩ := hx
  rw [hy] at hti
  split at hg <;> try cases hg
  · rename_i hus
    obtain ⟨s, h1, _, h2⟩ := DataW.trod_string hus hti
    exact ⟨_, h1, s, rfl, h2⟩
  · rename_i hus
    obtain ⟨n', h1, _, h2⟩ := DataW.trod_int hus hti
    exact ⟨_, h1, n', rfl, i64ok_of_wf h2⟩

/-- A SLICE THAT CAME IN -/
theorem open_arr {α : Type} [Inhabited α] {encα : α → List Value} {ok : α → Prop} {sz e t : Nat} {W : World} {v : Value} {d : DataW H} {p : List MemPlace} {base : Nat} (ht : P.underlying t = some (.slice e)) (hsz : P.cellsOf e = sz) (hpos : 0 < sz)
    (hone : ∀ (n : Nat) (cs : List Value) (x : DataW H × List MemPlace), DataW.trod enc P W 0 (fun _ => true) true n e cs = some x → ∃ y, cs = encα y ∧ ok y) (hlen : ∀ y, (encα y).length = sz)
    (hok : Value.okWide P W .any base t v) (h : DataW.Trod enc P W 0 (fun _ => true) true t v d p) :
    ∃ a n c xs, v = .slice a n c ∧ Arr encα sz W a n xs ∧ ∀ x ∈ xs, ok x := by
  obtain ⟨a, n, c, rfl⟩ := okWide_slice ht hok
  obtain ⟨fuel, hf⟩ := h
  rcases Go.Deep.open_slice ht hf with ⟨hcs, _⟩ | ⟨ad, len, cap, m, k, D, Pl, hcs, _, hle, hmax, hm, _, hel⟩
  · simp [Value.cells] at hcs
    obtain ⟨rfl, rfl, rfl⟩ := hcs
    exact ⟨none, 0, 0, [], rfl, Arr.nil, by simp⟩
  · simp [Value.cells] at hcs
    obtain ⟨rfl, hn, hc'⟩ := hcs
    subst hn
    subst hc'
    simp only [if_true] at hm
    subst hm
    rw [hsz] at hel
    have key : ∀ i, i < n → ∃ y, W.cells? 0 (ad.add (i * sz)) sz = some (encα y) ∧ ok y := fun i hi => by
      obtain ⟨cs', h1, h2⟩ := hel i (by omega)
      obtain ⟨y, rfl, hy⟩ := hone _ _ _ h2
      exact ⟨y, h1, hy⟩
    obtain ⟨F, hF⟩ := Go.Deep.choose_lt key
    refine ⟨some ad, n, _, (List.range n).map F, rfl, ⟨by simp, by omega, ?_⟩, ?_⟩
    · intro i x hx
      have hi : i < n := by
        have := (List.getElem?_eq_some_iff.1 hx).1
        simpa using this
      simp [hi] at hx
      subst hx
      obtain ⟨hc, _⟩ := hF i hi
      obtain ⟨_, _, hcell⟩ := World.cells?_some hc
      obtain ⟨b, o, spot⟩ := ad
      have hsp : spot = none := by
        have h0 := hcell 0 hpos
        have : ∃ v, (encα (F i))[0]? = some v := ⟨_, List.getElem?_eq_getElem (by rw [hlen]; exact hpos)⟩
        obtain ⟨v, hv⟩ := this
        rw [hv] at h0
        have h1 := World.cell?_spot h0
        unfold Addr.add at h1
        by_cases hz : i * sz = 0
        · simpa [hz] using h1
        · -- a later element's address bears no spot by itself: look at the first
          have h00 := hF 0 (by omega)
          obtain ⟨_, _, hcell0⟩ := World.cells?_some h00.1
          have h01 := hcell0 0 hpos
          obtain ⟨v0, hv0⟩ : ∃ v, (encα (F 0))[0]? = some v := ⟨_, List.getElem?_eq_getElem (by rw [hlen]; exact hpos)⟩
          rw [hv0] at h01
          have h2 := World.cell?_spot h01
          simpa [Addr.add] using h2
      subst hsp
      refine ⟨b, o, rfl, fun j v hj => ?_⟩
      have hjl : j < sz := by rw [← hlen (F i)]; exact (List.getElem?_eq_some_iff.1 hj).1
      have := hcell j hjl
      rw [hj] at this
      rw [addr_add_none, addr_add_none] at this
      exact this
    · intro x hx
      simp at hx
      obtain ⟨i, hi, rfl⟩ := hx
      exact (hF i hi).2
/-- A FLAT STRUCT THAT CAME IN, by value -/
theorem open_flat {t base : Nat} {W : World} {v : Value} {d : DataW H} {p : List MemPlace} {ks : List Bool} (hk : flatKinds P t = some ks) (hok : Value.okWide P W .any base t v) (h : DataW.Trod enc P W 0 (fun _ => true) true t v d p) :
    ∃ cs, v = .agg ⟨cs⟩ ∧ Flat ks cs := by
  obtain ⟨fuel, hf⟩ := h
  have hfl := trod_flat hk hf
  have hu : ∃ fs, P.underlying t = some (.struct fs) := by
    unfold flatKinds at hk
    split at hk <;> try cases hk
    exact ⟨_, by assumption⟩
  obtain ⟨fs, hu⟩ := hu
  unfold Value.okWide at hok
  rw [hu] at hok
  obtain ⟨cs, rfl, _, _⟩ := hok
  exact ⟨cs.toList, rfl, hfl⟩
end
end Go.Vc
