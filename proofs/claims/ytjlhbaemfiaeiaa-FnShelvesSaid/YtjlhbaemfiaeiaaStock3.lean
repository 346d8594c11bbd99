/- Contracts of functions of the given program, of the reference and of the laws: each says what a call returns, for all arguments that meet the premises that the theorem itself names. -/
import Derived.Test.YtjlhbaemfiaeiaaStock
import Derived.Test.YtjlhbaemfiaeiaaFMove
import Derived.Test.YtjlhbaemfiaeiaaLibSl
namespace Go.M
open Go Go.Vc
def cntOk (x : TPart) : Prop := 0 ≤ x.count ∧ x.count ≤ 1000000
def moveCode (xs : List TPart) (m : TMove) : Int :=
  if inB m.part 0 ((xs.length : Int) - 1) = false then 2 else if inB m.count (-1000000) 1000000 = false then 2 else
    match xs[m.part.toNat]? with
    | none => 2
    | some x => if x.count + m.count < 0 then 6 else if 1000000 < x.count + m.count then 5 else 0
def moveList (xs : List TPart) (m : TMove) : List TPart :=
  match xs[m.part.toNat]? with
  | none => xs
  | some x => xs.set m.part.toNat { x with count := x.count + m.count }
def moveM (xs : List TPart) (m : TMove) : List TPart × Int := if moveCode xs m = 0 then (moveList xs m, 0) else ([], moveCode xs m)
theorem moveList_len (xs : List TPart) (m : TMove) : (moveList xs m).length = xs.length := by
  unfold moveList; split <;> simp
theorem moveM_len (xs : List TPart) (m : TMove) : (moveM xs m).1.length ≤ xs.length := by
  unfold moveM; split <;> simp [moveList_len]
theorem moveM_code (xs : List TPart) (m : TMove) : (moveM xs m).2 = moveCode xs m := by
  unfold moveM; split <;> simp_all
theorem moveList_ok {xs : List TPart} {m : TMove} (h : ∀ x ∈ xs, cntOk x) (hc : moveCode xs m = 0) : ∀ x ∈ moveList xs m, cntOk x := by
  unfold moveCode at hc
  unfold moveList
  split at hc
  · omega
  split at hc
  · omega
  split
  · exact h
  · rename_i x hx
    rw [hx] at hc
    simp only at hc
    intro y hy
    rcases List.mem_or_eq_of_mem_set hy with hy | rfl
    · exact h y hy
    · unfold cntOk
      simp only
      split at hc
      · omega
      split at hc
      · omega
      · omega
theorem moveCode_pos {xs : List TPart} {m : TMove} (h1 : inB m.part 0 ((xs.length : Int) - 1) = true) : ∃ (k : Nat) (x : TPart), m.part = (k : Int) ∧ m.part.toNat = k ∧ xs[k]? = some x := by
  simp only [inB, Bool.and_eq_true, decide_eq_true_eq] at h1
  obtain ⟨x, hx⟩ := get_of_lt (l := xs) (k := m.part.toNat) (by omega)
  exact ⟨m.part.toNat, x, by omega, rfl, hx⟩
def movesM : List TPart → List TMove → Nat → List TPart × Nat
  | xs, [], i => (xs, i)
  | xs, m :: ms, i => if moveCode xs m = 0 then movesM (moveList xs m) ms (i + 1) else (xs, i)
theorem movesM_len : ∀ (xs : List TPart) (ms : List TMove) (i : Nat), (movesM xs ms i).1.length = xs.length
  | xs, [], i => rfl
  | xs, m :: ms, i => by
    unfold movesM
    split
    · rw [movesM_len, moveList_len]
    · rfl
def applyMoveM (xs : List TPart) (m : TMove) : List TPart × Int := if partsB xs = false then ([], 1) else moveM xs m
def applyMovesM (xs : List TPart) (ms : List TMove) : List TPart × Int × Int := if partsB xs = false then ([], 0, 1) else ((movesM xs ms 0).1, ((movesM xs ms 0).2 : Int), 0)
theorem partsB_cnt {xs : List TPart} (h : partsB xs = true) : ∀ x ∈ xs, cntOk x := fun x hx => (partB_b ((partsB_mem h).2 x hx)).1
def checkL (xs : List TPart) (cs : List Int) (k : Nat) : List Int := (List.range k).map fun i => (match cs[i]?, xs[i]? with | some c, some x => c - x.count | _, _ => 0)
theorem checkL_succ {xs : List TPart} {cs : List Int} {k : Nat} {c : Int} {x : TPart} (hc : cs[k]? = some c) (hx : xs[k]? = some x) : checkL xs cs (k + 1) = checkL xs cs k ++ [c - x.count] := by
  simp [checkL, List.range_succ, hc, hx]
def anyBad (cs : List Int) : Bool := cs.any fun n => !inB n 0 1000000
def stockCheckM (xs : List TPart) (cs : List Int) : List Int × Int :=
  if partsB xs = false then ([], 1) else if cs.length ≠ xs.length then ([], 2) else if anyBad cs = true then ([], 2) else (checkL xs cs xs.length, 0)
theorem stockCheckM_len (xs : List TPart) (cs : List Int) : (stockCheckM xs cs).1.length ≤ xs.length := by
  unfold stockCheckM
  repeat' split
  all_goals simp [checkL]
theorem applyMoveM_len (xs : List TPart) (m : TMove) : (applyMoveM xs m).1.length ≤ xs.length := by
  unfold applyMoveM
  split
  · simp
  · exact moveM_len xs m
theorem applyMovesM_len (xs : List TPart) (ms : List TMove) : (applyMovesM xs ms).1.length ≤ xs.length := by
  unfold applyMovesM
  split
  · simp
  · simp [movesM_len]
end Go.M
namespace Go.Proofs.Ytjlhbaemfiaeiaa
open Go Go.RowKit Go.Vc Go.M
theorem impl_moved {w : World} {a : Option Addr} {n c : Nat} {xs : List TPart} (h : Arr TPart.enc 4 w a n xs) (hcn : ∀ x ∈ xs, cntOk x) (hn40 : n ≤ 40) (m : TMove) :
    Does Try.prog 125 [.slice a n c, .agg ⟨m.enc⟩] w (fun v w' => ∃ a' n' c', v = .tuple #[.slice a' n' c', .int .i64 (moveM xs m).2] ∧ NewAt w.heap.size a' ∧ Own TPart.enc w' a' n' 64 (moveM xs m).1 ∧ Ext w w') := by
  have hn := h.len
  generalize hr : moveM xs m = r
  obtain ⟨p, q⟩ := m
  refine Does.of_vc tabok Try.func125 rfl rfl rfl (by kernel_rfl) ?_; conv => whnf
  refine SemK.box ?_
  intro b1 w1 g1 l1 e1 B1
  conv => whnf
  refine DrawK.det tabok mixed (by kernel_rfl) (by kernel_rfl) ?_
  conv => whnf
  refine DSemK.load1 (by kernel_rfl) B1.cells (k := 0) rfl ?_
  conv => whnf
  refine DDoes.same (fun _ _ => impl_sizePart _ _ _ _) ?_
  conv => whnf
  refine DSemK.sub _ rfl (by omega) (by omega) ?_
  conv => whnf
  refine DDoes.same (fun _ _ => impl_inside _ _ _ _) ?_
  cases hz1 : inB p 0 ((n : Int) - 1)
  · conv => whnf
    intro w41 e41
    conv => whnf
    simp [moveM, moveCode, hn, hz1] at hr
    subst hr
    exact ⟨_, _, _, rfl, NewAt.nil, Own.nil, (Ext.trans e1 e41)⟩
  obtain ⟨k, x, hk, _, hx⟩ := moveCode_pos (m := ⟨p, q⟩) (by rw [hn]; exact hz1)
  simp only at hk
  subst hk
  have hxc := hcn x (List.mem_of_getElem? hx)
  unfold cntOk at hxc
  conv => whnf
  refine DSemK.load1 (by kernel_rfl) B1.cells (k := 1) rfl ?_
  conv => whnf
  refine DDoes.same (fun _ _ => impl_inside _ _ _ _) ?_
  cases hz2 : inB q (-1000000) 1000000
  · conv => whnf
    intro w567 e567
    conv => whnf
    simp [moveM, moveCode, hn, hz1, hz2] at hr
    subst hr
    exact ⟨_, _, _, rfl, NewAt.nil, Own.nil, (Ext.trans e1 e567)⟩
  have hq : -1000000 ≤ q ∧ q ≤ 1000000 := by simpa [inB] using hz2
  have hkl : k < n := by rw [← hn]; exact (List.getElem?_eq_some_iff.1 hx).1
  conv => whnf
  intro w522 e522
  conv => whnf
  refine SemK.buildSlice mk_47 (vs := []) (by rfl) (by rfl) (by simp [Value.cells]) (by decide) ?_
  intro b523 w523 g523 l523 e523 B523
  have G523 := Grow.new0 (enc := TPart.enc) TPart.enc_len B523 g523
  conv => whnf
  refine SemK.appendNew (enc := TPart.enc) mk_47 TPart.enc_len G523 (h.ext (Ext.trans (Ext.trans e1 e522) e523)) (by intro y _; simp [TPart.enc, cellish]) (by omega) (by omega) (Below.size e523) ?_
  intro a524 c524 w524 G524 m524 i524
  conv => whnf
  refine DrawK.tail tabok mixed 11 (by kernel_rfl) (by kernel_rfl) ?_
  conv => whnf
  refine DSemK.load1 (by kernel_rfl) (B1.ext (Ext.mod_trans (Ext.trans e522 e523) m524 (fun k hk => Nat.le_trans (Below.size e522) (blkIn_new G523.new k hk)))).cells (k := 0) rfl ?_
  conv => whnf
  obtain ⟨b526, rfl⟩ := (G524.own).some (by omega)
  have gb526 : w522.heap.size ≤ b526 := G524.new _ rfl
  have lb526 : b526 < w524.heap.size := G524.lt _ rfl
  refine DSemK.indexOwn (sz := 4) (by kernel_rfl) k rfl (by omega) ?_
  have hb526 := Own.elem TPart.enc_len G524.own hx
  conv => whnf
  refine DSemK.load1 (by kernel_rfl) hb526 (k := 1) rfl ?_
  conv => whnf
  refine DSemK.load1 (by kernel_rfl) (B1.ext (Ext.mod_trans (Ext.trans e522 e523) m524 (fun k hk => Nat.le_trans (Below.size e522) (blkIn_new G523.new k hk)))).cells (k := 1) rfl ?_
  conv => whnf
  refine DSemK.add (x.count + q) rfl (by omega) (by omega) ?_
  conv => whnf
  refine DSemK.indexOwn (sz := 4) (by kernel_rfl) k rfl (by omega) ?_
  have hb528 := Own.elem TPart.enc_len G524.own hx
  conv => whnf
  intro w529 e529
  conv => whnf
  refine SemK.storeGrow1 (k := k) (j := 1) (by kernel_rfl) TPart.enc_len (G524.ext e529) hx (by decide) rfl { x with count := x.count + q } rfl ?_
  intro w530 c530 B530
  have hx530 := set_get hx ({ x with count := x.count + q })
  conv => whnf
  refine SemK.load1 (by kernel_rfl) (B1.ext (Ext.but_trans (Ext.trans (Ext.mod_trans (Ext.trans e522 e523) m524 (fun k hk => Nat.le_trans (Below.size e522) (blkIn_new G523.new k hk))) e529) c530.but (Nat.le_trans (Below.size e522) gb526))).cells (k := 0) rfl ?_
  conv => whnf
  refine SemK.indexOwn (sz := 4) (by kernel_rfl) k rfl (by omega) ?_
  have hb532 := Own.elem TPart.enc_len B530.own hx530
  conv => whnf
  refine SemK.load1 (by kernel_rfl) hb532 (k := 1) rfl ?_
  conv => whnf
  with_reducible refine IfB.dec (fun h533 => ?_) (fun h533 => ?_)
  · conv => whnf
    simp [moveM, moveCode, moveList, hn, hx, h533, hz1, hz2] at hr
    subst hr
    exact ⟨_, _, _, rfl, NewAt.nil, Own.nil, (Ext.but_trans (Ext.trans (Ext.mod_trans (Ext.trans (Ext.trans e1 e522) e523) m524 (fun k hk => Nat.le_trans (Below.size (Ext.trans e1 e522)) (blkIn_new G523.new k hk))) e529) c530.but (Nat.le_trans (Below.size (Ext.trans e1 e522)) gb526))⟩
  · conv => whnf
    refine SemK.load1 (by kernel_rfl) (B1.ext (Ext.but_trans (Ext.trans (Ext.mod_trans (Ext.trans e522 e523) m524 (fun k hk => Nat.le_trans (Below.size e522) (blkIn_new G523.new k hk))) e529) c530.but (Nat.le_trans (Below.size e522) gb526))).cells (k := 0) rfl ?_
    conv => whnf
    refine SemK.indexOwn (sz := 4) (by kernel_rfl) k rfl (by omega) ?_
    have hb535 := Own.elem TPart.enc_len B530.own hx530
    conv => whnf
    refine SemK.load1 (by kernel_rfl) hb535 (k := 1) rfl ?_
    conv => whnf
    with_reducible refine IfB.dec (fun h536 => ?_) (fun h536 => ?_)
    · conv => whnf
      simp [moveM, moveCode, moveList, hn, hx, h533, h536, hz1, hz2] at hr
      subst hr
      exact ⟨_, _, _, rfl, NewAt.nil, Own.nil, (Ext.but_trans (Ext.trans (Ext.mod_trans (Ext.trans (Ext.trans e1 e522) e523) m524 (fun k hk => Nat.le_trans (Below.size (Ext.trans e1 e522)) (blkIn_new G523.new k hk))) e529) c530.but (Nat.le_trans (Below.size (Ext.trans e1 e522)) gb526))⟩
    · conv => whnf
      simp [moveM, moveCode, moveList, hn, hx, h533, h536, hz1, hz2] at hr
      subst hr
      exact ⟨_, _, _, rfl, (B530.new.mono (Below.size (Ext.trans e1 e522))), B530.own, (Ext.but_trans (Ext.trans (Ext.mod_trans (Ext.trans (Ext.trans e1 e522) e523) m524 (fun k hk => Nat.le_trans (Below.size (Ext.trans e1 e522)) (blkIn_new G523.new k hk))) e529) c530.but (Nat.le_trans (Below.size (Ext.trans e1 e522)) gb526))⟩
theorem spec_StockCheck {w : World} {a a2 : Option Addr} {n n2 c c2 : Nat} {xs : List TPart} {cs : List Int} (h : Arr TPart.enc 4 w a n xs) (hok : ∀ x ∈ xs, x.ok) (h2 : Arr eI 1 w a2 n2 cs) :
    Does Try.prog 45 [.slice a n c, .slice a2 n2 c2] w (fun v w' => ∃ a' n' c', v = .tuple #[.slice a' n' c', .int .i64 (stockCheckM xs cs).2] ∧ NewAt w.heap.size a' ∧ Own eI w' a' n' 2 (stockCheckM xs cs).1 ∧ Ext w w') := by
  have hn := h.len
  have hn2 := h2.len
  generalize hr : stockCheckM xs cs = r
  refine Does.of_vc tabok Try.func45 rfl rfl rfl (by kernel_rfl) ?_; conv => whnf
  refine (spec_l25Ok h hok).mono ?_
  rintro _ w2 ⟨rfl, e1⟩
  cases hz1 : partsB xs
  · conv => whnf
    simp [stockCheckM, hz1] at hr
    subst hr
    exact ⟨_, _, _, rfl, NewAt.nil, Own.nil, e1⟩
  obtain ⟨h40, hbx⟩ := partsB_mem hz1
  have hcx := fun (x : TPart) (hx : x ∈ xs) => partB_b (hbx x hx)
  by_cases hz2 : n2 = n
  case neg =>
    refine IfB.eqt (by simp; omega) ?_
    have hz3 : ¬ cs.length = xs.length := by omega
    conv => whnf
    simp [stockCheckM, hz1, hz2, hz3] at hr
    subst hr
    exact ⟨_, _, _, rfl, NewAt.nil, Own.nil, e1⟩
  subst hz2
  have hz4 : cs.length = xs.length := by omega
  conv => whnf
  refine IfB.eqf (by simp) ?_
  conv => whnf
  refine SemK.buildSlice mk_39 (vs := []) (by rfl) (by rfl) (by simp [Value.cells]) (by decide) ?_
  intro b42 w42 g42 l42 e42 B42
  have G42 := Grow.new0 (enc := eI) eI_len B42 g42
  conv => whnf
  refine LoopK.rule [0, 1, 6, 7] (fun (k : Nat) vs w' => ∃ a' c', vs = [.slice a n2 c, .slice a2 n2 c2, .slice a' k c', .int .i64 k] ∧ k ≤ n2 ∧ (cs.take k).any (fun n => !inB n 0 1000000) = false ∧ Grow eI 1 w2.heap.size 2 w' a' k c' (checkL xs cs k) ∧ Ext w2 w') (fun k => n2 - k) tab tabok (by kernel_rfl) 0
    ⟨_, _, rfl, by omega, by simp, by simpa [checkL] using G42, e42⟩ ?_
  rintro k g _ w' ⟨a', c', rfl, hk, hall, hG, hE⟩
  conv => whnf
  with_reducible refine IfB.dec (fun h43 => ?_) (fun h43 => ?_)
  · conv => whnf
    obtain ⟨x44, hx44⟩ : ∃ x, cs[k]? = some x := get_of_lt (by omega)
    refine SemK.index (by kernel_rfl) (h2.ext (Ext.trans e1 hE)) k rfl hx44 ?_
    intro b45 o45 _ hb45
    conv => whnf
    refine SemK.load0 (by kernel_rfl) hb45 rfl ?_
    conv => whnf
    refine (spec_in _ _ _ _).mono ?_
    rintro _ _ ⟨rfl, rfl⟩
    conv => whnf
    with_reducible refine IfB.nsplit (fun h47 => ?_) (fun h47 => ?_)
    · conv => whnf
      have hz3 : anyBad cs = true := List.any_eq_true.2 ⟨x44, List.mem_of_getElem? hx44, by simp [h47]⟩
      simp [stockCheckM, hz1, hz4, hz3] at hr
      subst hr
      exact ⟨_, _, _, rfl, NewAt.nil, Own.nil, Ext.trans e1 hE⟩
    · conv => whnf
      have hi47 := inB_true h47
      refine DrawK.tail tabok mixed 11 (by kernel_rfl) (by kernel_rfl) ?_
      conv => whnf
      refine DSemK.index (by kernel_rfl) (h2.ext (Ext.trans e1 hE)) k rfl hx44 ?_
      intro b49 o49 _ hb49
      conv => whnf
      refine DSemK.load0 (by kernel_rfl) hb49 rfl ?_
      conv => whnf
      obtain ⟨x50, hx50⟩ : ∃ x, xs[k]? = some x := get_of_lt (by omega)
      have ok50 := hcx _ (List.mem_of_getElem? hx50)
      have ok50' := hbx _ (List.mem_of_getElem? hx50)
      have ok50'' := hok _ (List.mem_of_getElem? hx50)
      refine DSemK.index (by kernel_rfl) (h.ext (Ext.trans e1 hE)) k rfl hx50 ?_
      intro b51 o51 _ hb51
      conv => whnf
      refine DSemK.load1 (by kernel_rfl) hb51 (k := 1) rfl ?_
      conv => whnf
      refine DSemK.sub _ rfl (by omega) (by omega) ?_
      conv => whnf
      intro w52 e52
      conv => whnf
      refine SemK.buildSlice mk_39 (vs := [Value.int IntKind.i64 (x44 - x50.count)]) (by rfl) (by rfl) (by simp [Value.cells]) (by decide) ?_
      intro b53 w53 g53 l53 e53 B53
      have G53 := Grow.of_blk (n := 1) (enc := eI) (xs := [x44 - x50.count]) eI_len B53 g53 rfl (by decide)
      conv => whnf
      refine SemK.appendArr0 (enc := eI) mk_39 eI_len (hG.ext (Ext.trans e52 e53)) (G53.own.arr eI_len) (by intro y _; simp [eI, cellish]) (by omega) (by omega) (Below.size (Ext.trans (Ext.trans hE e52) e53)) ?_
      intro a54 c54 w54 G54 m54 i54
      conv => whnf
      refine SemK.add (((k + 1 : Nat) : Int)) (by omega) (by omega) (by omega) ?_
      conv => whnf
      refine ⟨k + 1, by omega, _, _, rfl, by omega, by simp [List.take_add_one, stockCheckM, hn, hn2, *], ?_, (Ext.mod_trans (Ext.trans (Ext.trans hE e52) e53) m54 (blkIn_new hG.new))⟩
      · rw [checkL_succ hx44 hx50]; exact G54
  · conv => whnf
    have kn55 : k = n2 := by omega
    have tk56 : List.take k cs = cs := List.take_of_length_le (by omega)
    have tk57 : List.take k xs = xs := List.take_of_length_le (by omega)
    have hz3 : anyBad cs = false := by rw [tk56] at hall; exact hall
    simp [stockCheckM, hz1, hz4, hz3, hn] at hr
    subst hr
    subst kn55
    exact ⟨_, _, _, rfl, hG.new.mono e1.size, hG.own, Ext.trans e1 hE⟩
theorem impl_StockCheck1 (x : Int) (w : World) : Does Try.prog 120 [.int .i64 x] w (fun v w' => v = .bool (!inB x 0 1000000) ∧ Ext w w') := by
  refine Does.of_vc tabok Try.func120 rfl rfl rfl (by kernel_rfl) ?_; conv => whnf
  refine (impl_arePieces _ _).mono ?_
  rintro _ _ ⟨rfl, rfl⟩
  conv => whnf
  exact ⟨rfl, Ext.refl _⟩
theorem impl_StockCheck {w : World} {a a2 : Option Addr} {n n2 c c2 : Nat} {xs : List TPart} {cs : List Int} (h : Arr TPart.enc 4 w a n xs) (hok : ∀ x ∈ xs, x.ok) (hnc : n ≤ c) (h2 : Arr eI 1 w a2 n2 cs) :
    Does Try.prog 44 [.slice a n c, .slice a2 n2 c2] w (fun v w' => ∃ a' n' c', v = .tuple #[.slice a' n' c', .int .i64 (stockCheckM xs cs).2] ∧ NewAt w.heap.size a' ∧ Own eI w' a' n' 2 (stockCheckM xs cs).1 ∧ Ext w w') := by
  have hn := h.len
  have hn2 := h2.len
  generalize hr : stockCheckM xs cs = r
  refine Does.of_vc tabok Try.func44 rfl rfl rfl (by kernel_rfl) ?_; conv => whnf
  refine (impl_ValidParts h hok hnc).mono ?_
  rintro _ w2 ⟨rfl, e1⟩
  cases hz1 : partsB xs
  · conv => whnf
    simp [stockCheckM, hz1] at hr
    subst hr
    exact ⟨_, _, _, rfl, NewAt.nil, Own.nil, e1⟩
  obtain ⟨h40, hbx⟩ := partsB_mem hz1
  have hcx := fun (x : TPart) (hx : x ∈ xs) => partB_b (hbx x hx)
  by_cases hz2 : n2 = n
  case neg =>
    refine IfB.eqt (by simp; omega) ?_
    have hz3 : ¬ cs.length = xs.length := by omega
    conv => whnf
    simp [stockCheckM, hz1, hz2, hz3] at hr
    subst hr
    exact ⟨_, _, _, rfl, NewAt.nil, Own.nil, e1⟩
  subst hz2
  conv => whnf
  refine IfB.eqf (by simp) ?_
  conv => whnf
  refine (lib_ContainsFuncInt (h2.ext e1) (p := fun n => !inB n 0 1000000) (cap := []) (fun x _ w' _ => impl_StockCheck1 x w')).mono ?_
  rintro _ w3 ⟨rfl, e3⟩
  have e13 := Ext.trans e1 e3
  have hab : cs.any (fun n => !inB n 0 1000000) = anyBad cs := rfl
  rw [hab]
  cases hz3 : anyBad cs
  case true =>
    have hz4 : cs.length = xs.length := by omega
    conv => whnf
    simp [stockCheckM, hz1, hz3, hz4] at hr
    subst hr
    exact ⟨_, _, _, rfl, NewAt.nil, Own.nil, e13⟩
  have hci : ∀ x ∈ cs, 0 ≤ x ∧ x ≤ 1000000 := fun x hx => by
    unfold anyBad at hz3
    rw [List.any_eq_false] at hz3
    simpa [inB] using hz3 x hx
  conv => whnf
  refine SemK.buildSlice mk_39 (vs := []) (by rfl) (by rfl) (by simp [Value.cells]) (by decide) ?_
  intro b42 w42 g42 l42 e42 B42
  have G42 := Grow.new0 (enc := eI) eI_len B42 g42
  conv => whnf
  have hz4 : cs.length = xs.length := by omega
  simp [stockCheckM, hz1, hz4, hz3, hn] at hr
  subst hr
  refine LoopK.rule [0, 6, 24, 25, 26] (fun (k : Nat) vs w' => ∃ a' c', vs = [.slice a n2 c, .slice a' k c', .slice a2 n2 c2, .int .i64 n2, .int .i64 k] ∧ k ≤ n2 ∧ Grow eI 1 w3.heap.size 2 w' a' k c' (checkL xs cs k) ∧ Ext w3 w') (fun k => n2 - k) tab tabok (by kernel_rfl) 0
    ⟨_, _, rfl, by omega, by simpa [checkL] using G42, e42⟩ ?_
  rintro k g _ w' ⟨a', c', rfl, hk, hG, hE⟩
  conv => whnf
  with_reducible refine IfB.dec (fun h43 => ?_) (fun h43 => ?_)
  · conv => whnf
    obtain ⟨x44, hx44⟩ : ∃ x, cs[k]? = some x := get_of_lt (by omega)
    have ok44 := hci _ (List.mem_of_getElem? hx44)
    refine SemK.index (by kernel_rfl) (h2.ext (Ext.trans e13 hE)) k rfl hx44 ?_
    intro b45 o45 _ hb45
    conv => whnf
    refine SemK.load0 (by kernel_rfl) hb45 rfl ?_
    conv => whnf
    obtain ⟨x46, hx46⟩ : ∃ x, xs[k]? = some x := get_of_lt (by omega)
    have ok46 := hcx _ (List.mem_of_getElem? hx46)
    have ok46' := hbx _ (List.mem_of_getElem? hx46)
    have ok46'' := hok _ (List.mem_of_getElem? hx46)
    refine SemK.index (by kernel_rfl) (h.ext (Ext.trans e13 hE)) k rfl hx46 ?_
    intro b47 o47 _ hb47
    conv => whnf
    refine SemK.load1 (by kernel_rfl) hb47 (k := 1) rfl ?_
    conv => whnf
    refine SemK.sub _ rfl (by omega) (by omega) ?_
    conv => whnf
    refine SemK.buildSlice mk_39 (vs := [Value.int IntKind.i64 (x44 - x46.count)]) (by rfl) (by rfl) (by simp [Value.cells]) (by decide) ?_
    intro b48 w48 g48 l48 e48 B48
    have G48 := Grow.of_blk (n := 1) (enc := eI) (xs := [x44 - x46.count]) eI_len B48 g48 rfl (by decide)
    conv => whnf
    refine SemK.appendArr0 (enc := eI) mk_39 eI_len (hG.ext e48) (G48.own.arr eI_len) (by intro y _; simp [eI, cellish]) (by omega) (by omega) (Below.size (Ext.trans hE e48)) ?_
    intro a49 c49 w49 G49 m49 i49
    conv => whnf
    refine SemK.add (((k + 1 : Nat) : Int)) (by omega) (by omega) (by omega) ?_
    conv => whnf
    refine ⟨k + 1, by omega, _, _, rfl, by omega, ?_, (Ext.mod_trans (Ext.trans hE e48) m49 (blkIn_new hG.new))⟩
    · rw [checkL_succ hx44 hx46]; exact G49
  · conv => whnf
    have kn50 : k = n2 := by omega
    have tk51 : List.take k cs = cs := List.take_of_length_le (by omega)
    have tk52 : List.take k xs = xs := List.take_of_length_le (by omega)
    exact ⟨_, _, _, rfl, (hG.new.mono (Below.size e13)), by simpa [List.take_add_one, *] using hG.own, (Ext.trans e13 hE)⟩
theorem impl_ApplyMove {w : World} {a : Option Addr} {n c : Nat} {xs : List TPart} (h : Arr TPart.enc 4 w a n xs) (hok : ∀ x ∈ xs, x.ok) (hnc : n ≤ c) (m : TMove) :
    Does Try.prog 49 [.slice a n c, .agg ⟨m.enc⟩] w (fun v w' => ∃ a' n' c', v = .tuple #[.slice a' n' c', .int .i64 (applyMoveM xs m).2] ∧ NewAt w.heap.size a' ∧ Own TPart.enc w' a' n' 64 (applyMoveM xs m).1 ∧ Ext w w') := by
  have hn := h.len
  generalize hr : applyMoveM xs m = r
  refine Does.of_vc tabok Try.func49 rfl rfl rfl (by kernel_rfl) ?_; conv => whnf
  refine SemK.box ?_
  intro b1 w1 g1 l1 e1 B1
  conv => whnf
  refine (impl_ValidParts (h.ext e1) hok hnc).mono ?_
  rintro _ w3 ⟨rfl, e2⟩
  cases hz1 : partsB xs
  · conv => whnf
    simp [applyMoveM, hz1] at hr
    subst hr
    exact ⟨_, _, _, rfl, NewAt.nil, Own.nil, (Ext.trans e1 e2)⟩
  have hcn := partsB_cnt hz1
  have h40 := (partsB_mem hz1).1
  simp [applyMoveM, hz1] at hr
  subst hr
  conv => whnf
  refine SemK.loadAgg (by kernel_rfl) (B1.ext e2).cells rfl ?_
  conv => whnf
  refine (impl_moved (h.ext (Ext.trans e1 e2)) hcn (by omega) _).mono ?_
  rintro _ w47 ⟨a'41, n'42, c'43, rfl, N44, O45, e46⟩
  conv => whnf
  exact ⟨_, _, _, rfl, (N44.mono (Below.size (Ext.trans e1 e2))), O45, (Ext.trans (Ext.trans e1 e2) e46)⟩
end Go.Proofs.Ytjlhbaemfiaeiaa
