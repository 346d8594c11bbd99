/- Contracts of functions of the given program, of the reference and of the laws: each says what a call returns, for all arguments that meet the premises that the theorem itself names. -/
import Derived.Test.YtfgbijddjoojbaaGreatDoorStock
import Derived.Test.YtfgbijddjoojbaaGreatDoorFMove
import Derived.Test.YtfgbijddjoojbaaGreatDoorLibSl
namespace Go.M
open Go Go.Vc
def cntOk (x : TPart) : Prop := 0 ≤ x.count ∧ x.count ≤ 1000000
def moveCode (xs : List TPart) (m : TMove) : Int :=
  if inB m.part 0 ((xs.length : Int) - 1) = false then 2 else if inB m.count (-1000000) 1000000 = false then 2 else
    match xs[m.part.toNat]? with
    | none => 2
    | some x => if x.count + m.count < 0 then 6 else if 1000000 < x.count + m.count then 5 else 0
def moveList (xs : List TPart) (m : TMove) : List TPart :=
  match xs[m.part.toNat]? with
  | none => xs
  | some x => xs.set m.part.toNat { x with count := x.count + m.count }
def moveM (xs : List TPart) (m : TMove) : List TPart × Int := if moveCode xs m = 0 then (moveList xs m, 0) else ([], moveCode xs m)
theorem moveList_len (xs : List TPart) (m : TMove) : (moveList xs m).length = xs.length := by
  unfold moveList; split <;> simp
theorem moveM_len (xs : List TPart) (m : TMove) : (moveM xs m).1.length ≤ xs.length := by
  unfold moveM; split <;> simp [moveList_len]
theorem moveM_code (xs : List TPart) (m : TMove) : (moveM xs m).2 = moveCode xs m := by
  unfold moveM; split <;> simp_all
theorem moveList_ok {xs : List TPart} {m : TMove} (h : ∀ x ∈ xs, cntOk x) (hc : moveCode xs m = 0) : ∀ x ∈ moveList xs m, cntOk x := by
  unfold moveCode at hc
  unfold moveList
  split at hc
  · omega
  split at hc
  · omega
  split
  · exact h
  · rename_i x hx
    rw [hx] at hc
    simp only at hc
    intro y hy
    rcases List.mem_or_eq_of_mem_set hy with hy | rfl
    · exact h y hy
    · unfold cntOk
      simp only
      split at hc
      · omega
      split at hc
      · omega
      · omega
theorem moveCode_pos {xs : List TPart} {m : TMove} (h1 : inB m.part 0 ((xs.length : Int) - 1) = true) : ∃ (k : Nat) (x : TPart), m.part = (k : Int) ∧ m.part.toNat = k ∧ xs[k]? = some x := by
  simp only [inB, Bool.and_eq_true, decide_eq_true_eq] at h1
  obtain ⟨x, hx⟩ := get_of_lt (l := xs) (k := m.part.toNat) (by omega)
  exact ⟨m.part.toNat, x, by omega, rfl, hx⟩
def movesM : List TPart → List TMove → Nat → List TPart × Nat
  | xs, [], i => (xs, i)
  | xs, m :: ms, i => if moveCode xs m = 0 then movesM (moveList xs m) ms (i + 1) else (xs, i)
theorem movesM_len : ∀ (xs : List TPart) (ms : List TMove) (i : Nat), (movesM xs ms i).1.length = xs.length
  | xs, [], i => rfl
  | xs, m :: ms, i => by
    unfold movesM
    split
    · rw [movesM_len, moveList_len]
    · rfl
def applyMoveM (xs : List TPart) (m : TMove) : List TPart × Int := if partsB xs = false then ([], 1) else moveM xs m
def applyMovesM (xs : List TPart) (ms : List TMove) : List TPart × Int × Int := if partsB xs = false then ([], 0, 1) else ((movesM xs ms 0).1, ((movesM xs ms 0).2 : Int), 0)
theorem partsB_cnt {xs : List TPart} (h : partsB xs = true) : ∀ x ∈ xs, cntOk x := fun x hx => (partB_b ((partsB_mem h).2 x hx)).1
def checkL (xs : List TPart) (cs : List Int) (k : Nat) : List Int := (List.range k).map fun i => (match cs[i]?, xs[i]? with | some c, some x => c - x.count | _, _ => 0)
theorem checkL_succ {xs : List TPart} {cs : List Int} {k : Nat} {c : Int} {x : TPart} (hc : cs[k]? = some c) (hx : xs[k]? = some x) : checkL xs cs (k + 1) = checkL xs cs k ++ [c - x.count] := by
  simp [checkL, List.range_succ, hc, hx]
def anyBad (cs : List Int) : Bool := cs.any fun n => !inB n 0 1000000
def stockCheckM (xs : List TPart) (cs : List Int) : List Int × Int :=
  if partsB xs = false then ([], 1) else if cs.length ≠ xs.length then ([], 2) else if anyBad cs = true then ([], 2) else (checkL xs cs xs.length, 0)
theorem stockCheckM_len (xs : List TPart) (cs : List Int) : (stockCheckM xs cs).1.length ≤ xs.length := by
  unfold stockCheckM
  repeat' split
  all_goals simp [checkL]
theorem applyMoveM_len (xs : List TPart) (m : TMove) : (applyMoveM xs m).1.length ≤ xs.length := by
  unfold applyMoveM
  split
  · simp
  · exact moveM_len xs m
theorem applyMovesM_len (xs : List TPart) (ms : List TMove) : (applyMovesM xs ms).1.length ≤ xs.length := by
  unfold applyMovesM
  split
  · simp
  · simp [movesM_len]
end Go.M
namespace Go.Proofs.YtfgbijddjoojbaaGreatDoor
open Go Go.RowKit Go.Vc Go.M
theorem spec_l25Move {w : World} {a : Option Addr} {n c t : Nat} {xs : List TPart} (h : Own TPart.enc w a n t xs) (hcn : ∀ x ∈ xs, cntOk x) (m : TMove) :
    Does Tryz.prog 70 [.slice a n c, .agg ⟨m.enc⟩] w (fun v w' => v = .int .i64 (moveCode xs m) ∧ Mod (blkIn a) w w' ∧ Own TPart.enc w' a n t (if moveCode xs m = 0 then moveList xs m else xs)) := by
  have hn := h.1
  have hm := h.2.1
  generalize hr : moveCode xs m = r
  generalize hr2 : (if r = 0 then moveList xs m else xs) = r2
  obtain ⟨p, q⟩ := m
  refine Does.of_vc tabok Tryz.func70 rfl rfl rfl (by kernel_rfl) ?_; conv => whnf
  refine SemK.box ?_
  intro b1 w1 g1 l1 e1 B1
  conv => whnf
  refine SemK.load1 (by kernel_rfl) B1.cells (k := 0) rfl ?_
  conv => whnf
  refine SemK.sub _ rfl (by omega) (by omega) ?_
  conv => whnf
  refine (spec_in _ _ _ _).mono ?_
  rintro _ _ ⟨rfl, rfl⟩
  cases hz1 : inB p 0 ((n : Int) - 1)
  · have hrr : r = 2 := by rw [← hr]; simp [moveCode, hn, hz1]
    subst hrr
    rw [if_neg (by omega)] at hr2
    subst hr2
    conv => whnf
    exact ⟨rfl, Ext.mod e1, (h.ext e1)⟩
  obtain ⟨k, x, hk, _, hx⟩ := moveCode_pos (m := ⟨p, q⟩) (by rw [hn]; exact hz1)
  simp only at hk
  subst hk
  have hxc := hcn x (List.mem_of_getElem? hx)
  unfold cntOk at hxc
  conv => whnf
  refine SemK.load1 (by kernel_rfl) B1.cells (k := 1) rfl ?_
  conv => whnf
  refine (spec_in _ _ _ _).mono ?_
  rintro _ _ ⟨rfl, rfl⟩
  cases hz2 : inB q (-1000000) 1000000
  · have hrr : r = 2 := by rw [← hr]; simp [moveCode, hn, hz1, hz2]
    subst hrr
    rw [if_neg (by omega)] at hr2
    subst hr2
    conv => whnf
    exact ⟨rfl, Ext.mod e1, (h.ext e1)⟩
  have hq : -1000000 ≤ q ∧ q ≤ 1000000 := by simpa [inB] using hz2
  have hkl : k < n := by rw [← hn]; exact (List.getElem?_eq_some_iff.1 hx).1
  simp [moveCode, hn, hz1, hz2, hx] at hr
  simp [moveList, hx] at hr2
  obtain ⟨b0, rfl⟩ := h.some (by omega)
  conv => whnf
  refine DrawK.det tabok mixed (by kernel_rfl) (by kernel_rfl) ?_
  conv => whnf
  refine DSemK.load1 (by kernel_rfl) B1.cells (k := 0) rfl ?_
  conv => whnf
  refine DSemK.indexOwn (sz := 4) (by kernel_rfl) k rfl (by omega) ?_
  have hb520 := Own.elem TPart.enc_len (h.ext e1) hx
  conv => whnf
  refine DSemK.load1 (by kernel_rfl) hb520 (k := 1) rfl ?_
  conv => whnf
  refine DSemK.load1 (by kernel_rfl) B1.cells (k := 1) rfl ?_
  conv => whnf
  refine DSemK.add (x.count + q) rfl (by omega) (by omega) ?_
  conv => whnf
  intro w521 e521
  conv => whnf
  with_reducible refine IfB.dec (fun h522 => ?_) (fun h522 => ?_)
  · conv => whnf
    refine ⟨by simp_all, Ext.mod (Ext.trans e1 e521), ?_⟩
    · rw [← hr2, ← hr, if_pos h522, if_neg (by omega)]; exact h.ext (Ext.trans e1 e521)
  · conv => whnf
    with_reducible refine IfB.dec (fun h523 => ?_) (fun h523 => ?_)
    · conv => whnf
      refine ⟨by simp_all, Ext.mod (Ext.trans e1 e521), ?_⟩
      · rw [← hr2, ← hr, if_neg h522, if_pos h523, if_neg (by omega)]; exact h.ext (Ext.trans e1 e521)
    · conv => whnf
      refine SemK.load1 (by kernel_rfl) (B1.ext e521).cells (k := 0) rfl ?_
      conv => whnf
      refine SemK.indexOwn (sz := 4) (by kernel_rfl) k rfl (by omega) ?_
      have hb525 := Own.elem TPart.enc_len (h.ext (Ext.trans e1 e521)) hx
      conv => whnf
      refine SemK.storeOwn1 (k := k) (j := 1) (by kernel_rfl) TPart.enc_len (h.ext (Ext.trans e1 e521)) hx (by decide) rfl { x with count := x.count + q } rfl ?_
      intro w526 c526 B526
      conv => whnf
      refine ⟨by simp_all, ((Ext.mod (Ext.trans e1 e521)).trans (c526.but.mono (fun i hi => ⟨_, rfl, hi⟩))), ?_⟩
      · rw [← hr2, ← hr, if_neg h522, if_neg h523, if_pos rfl]; exact B526
theorem impl_movedC {w : World} {a : Option Addr} {n c : Nat} {xs : List TPart} (h : Arr TPart.enc 4 w a n xs) (hcn : ∀ x ∈ xs, cntOk x) (hn40 : n ≤ 40) (m : TMove) :
    Does Tryz.prog 67 [.slice a n c, .agg ⟨m.enc⟩] w (fun v w' => ∃ a' n' c', v = .tuple #[.slice a' n' c', .int .i64 (moveM xs m).2] ∧ n' ≤ c' ∧ NewAt w.heap.size a' ∧ Own TPart.enc w' a' n' 81 (moveM xs m).1 ∧ Ext w w') := by
  have hn := h.len
  generalize hr : moveM xs m = r
  obtain ⟨p, q⟩ := m
  refine Does.of_vc tabok Tryz.func67 rfl rfl rfl (by kernel_rfl) ?_; conv => whnf
  refine SemK.box ?_
  intro b1 w1 g1 l1 e1 B1
  conv => whnf
  refine DrawK.det tabok mixed (by kernel_rfl) (by kernel_rfl) ?_
  conv => whnf
  refine DSemK.load1 (by kernel_rfl) B1.cells (k := 0) rfl ?_
  conv => whnf
  refine DDoes.same (fun _ _ => impl_sizePart _ _ _ _) ?_
  conv => whnf
  refine DSemK.sub _ rfl (by omega) (by omega) ?_
  conv => whnf
  refine DDoes.same (fun _ _ => impl_inside _ _ _ _) ?_
  cases hz1 : inB p 0 ((n : Int) - 1)
  · conv => whnf
    intro w41 e41
    conv => whnf
    simp [moveM, moveCode, hn, hz1] at hr
    subst hr
    exact ⟨_, _, _, rfl, Nat.le_refl _, NewAt.nil, Own.nil, (Ext.trans e1 e41)⟩
  obtain ⟨k, x, hk, _, hx⟩ := moveCode_pos (m := ⟨p, q⟩) (by rw [hn]; exact hz1)
  simp only at hk
  subst hk
  have hxc := hcn x (List.mem_of_getElem? hx)
  unfold cntOk at hxc
  conv => whnf
  refine DSemK.load1 (by kernel_rfl) B1.cells (k := 1) rfl ?_
  conv => whnf
  refine DDoes.same (fun _ _ => impl_inside _ _ _ _) ?_
  cases hz2 : inB q (-1000000) 1000000
  · conv => whnf
    intro w567 e567
    conv => whnf
    simp [moveM, moveCode, hn, hz1, hz2] at hr
    subst hr
    exact ⟨_, _, _, rfl, Nat.le_refl _, NewAt.nil, Own.nil, (Ext.trans e1 e567)⟩
  have hq : -1000000 ≤ q ∧ q ≤ 1000000 := by simpa [inB] using hz2
  have hkl : k < n := by rw [← hn]; exact (List.getElem?_eq_some_iff.1 hx).1
  conv => whnf
  intro w522 e522
  conv => whnf
  refine SemK.buildSlice mk_52 (vs := []) (by rfl) (by rfl) (by simp [Value.cells]) (by decide) ?_
  intro b523 w523 g523 l523 e523 B523
  have G523 := Grow.new0 (enc := TPart.enc) TPart.enc_len B523 g523
  conv => whnf
  refine SemK.appendNew (enc := TPart.enc) mk_52 TPart.enc_len G523 (h.ext (Ext.trans (Ext.trans e1 e522) e523)) (by intro y _; simp [TPart.enc, cellish]) (by omega) (by omega) (Below.size e523) ?_
  intro a524 c524 w524 G524 m524 i524
  conv => whnf
  refine DrawK.tail tabok mixed 11 (by kernel_rfl) (by kernel_rfl) ?_
  conv => whnf
  refine DSemK.load1 (by kernel_rfl) (B1.ext (Ext.mod_trans (Ext.trans e522 e523) m524 (fun k hk => Nat.le_trans (Below.size e522) (blkIn_new G523.new k hk)))).cells (k := 0) rfl ?_
  conv => whnf
  obtain ⟨b526, rfl⟩ := (G524.own).some (by omega)
  have gb526 : w522.heap.size ≤ b526 := G524.new _ rfl
  have lb526 : b526 < w524.heap.size := G524.lt _ rfl
  refine DSemK.indexOwn (sz := 4) (by kernel_rfl) k rfl (by omega) ?_
  have hb526 := Own.elem TPart.enc_len G524.own hx
  conv => whnf
  refine DSemK.load1 (by kernel_rfl) hb526 (k := 1) rfl ?_
  conv => whnf
  refine DSemK.load1 (by kernel_rfl) (B1.ext (Ext.mod_trans (Ext.trans e522 e523) m524 (fun k hk => Nat.le_trans (Below.size e522) (blkIn_new G523.new k hk)))).cells (k := 1) rfl ?_
  conv => whnf
  refine DSemK.add (x.count + q) rfl (by omega) (by omega) ?_
  conv => whnf
  refine DSemK.indexOwn (sz := 4) (by kernel_rfl) k rfl (by omega) ?_
  have hb528 := Own.elem TPart.enc_len G524.own hx
  conv => whnf
  intro w529 e529
  conv => whnf
  refine SemK.storeGrow1 (k := k) (j := 1) (by kernel_rfl) TPart.enc_len (G524.ext e529) hx (by decide) rfl { x with count := x.count + q } rfl ?_
  intro w530 c530 B530
  have hx530 := set_get hx ({ x with count := x.count + q })
  conv => whnf
  refine SemK.load1 (by kernel_rfl) (B1.ext (Ext.but_trans (Ext.trans (Ext.mod_trans (Ext.trans e522 e523) m524 (fun k hk => Nat.le_trans (Below.size e522) (blkIn_new G523.new k hk))) e529) c530.but (Nat.le_trans (Below.size e522) gb526))).cells (k := 0) rfl ?_
  conv => whnf
  refine SemK.indexOwn (sz := 4) (by kernel_rfl) k rfl (by omega) ?_
  have hb532 := Own.elem TPart.enc_len B530.own hx530
  conv => whnf
  refine SemK.load1 (by kernel_rfl) hb532 (k := 1) rfl ?_
  conv => whnf
  with_reducible refine IfB.dec (fun h533 => ?_) (fun h533 => ?_)
  · conv => whnf
    simp [moveM, moveCode, moveList, hn, hx, h533, hz1, hz2] at hr
    subst hr
    exact ⟨_, _, _, rfl, Nat.le_refl _, NewAt.nil, Own.nil, (Ext.but_trans (Ext.trans (Ext.mod_trans (Ext.trans (Ext.trans e1 e522) e523) m524 (fun k hk => Nat.le_trans (Below.size (Ext.trans e1 e522)) (blkIn_new G523.new k hk))) e529) c530.but (Nat.le_trans (Below.size (Ext.trans e1 e522)) gb526))⟩
  · conv => whnf
    refine SemK.load1 (by kernel_rfl) (B1.ext (Ext.but_trans (Ext.trans (Ext.mod_trans (Ext.trans e522 e523) m524 (fun k hk => Nat.le_trans (Below.size e522) (blkIn_new G523.new k hk))) e529) c530.but (Nat.le_trans (Below.size e522) gb526))).cells (k := 0) rfl ?_
    conv => whnf
    refine SemK.indexOwn (sz := 4) (by kernel_rfl) k rfl (by omega) ?_
    have hb535 := Own.elem TPart.enc_len B530.own hx530
    conv => whnf
    refine SemK.load1 (by kernel_rfl) hb535 (k := 1) rfl ?_
    conv => whnf
    with_reducible refine IfB.dec (fun h536 => ?_) (fun h536 => ?_)
    · conv => whnf
      simp [moveM, moveCode, moveList, hn, hx, h533, h536, hz1, hz2] at hr
      subst hr
      exact ⟨_, _, _, rfl, Nat.le_refl _, NewAt.nil, Own.nil, (Ext.but_trans (Ext.trans (Ext.mod_trans (Ext.trans (Ext.trans e1 e522) e523) m524 (fun k hk => Nat.le_trans (Below.size (Ext.trans e1 e522)) (blkIn_new G523.new k hk))) e529) c530.but (Nat.le_trans (Below.size (Ext.trans e1 e522)) gb526))⟩
    · conv => whnf
      simp [moveM, moveCode, moveList, hn, hx, h533, h536, hz1, hz2] at hr
      subst hr
      exact ⟨_, _, _, rfl, B530.le.1, (B530.new.mono (Below.size (Ext.trans e1 e522))), B530.own, (Ext.but_trans (Ext.trans (Ext.mod_trans (Ext.trans (Ext.trans e1 e522) e523) m524 (fun k hk => Nat.le_trans (Below.size (Ext.trans e1 e522)) (blkIn_new G523.new k hk))) e529) c530.but (Nat.le_trans (Below.size (Ext.trans e1 e522)) gb526))⟩
theorem impl_moved {w : World} {a : Option Addr} {n c : Nat} {xs : List TPart} (h : Arr TPart.enc 4 w a n xs) (hcn : ∀ x ∈ xs, cntOk x) (hn40 : n ≤ 40) (m : TMove) :
    Does Tryz.prog 67 [.slice a n c, .agg ⟨m.enc⟩] w (fun v w' => ∃ a' n' c', v = .tuple #[.slice a' n' c', .int .i64 (moveM xs m).2] ∧ NewAt w.heap.size a' ∧ Own TPart.enc w' a' n' 81 (moveM xs m).1 ∧ Ext w w') :=
  (impl_movedC h hcn hn40 m).mono fun _ _ ⟨a', n', c', h1, _, h2⟩ => ⟨a', n', c', h1, h2⟩
theorem spec_ApplyMove {w : World} {a : Option Addr} {n c : Nat} {xs : List TPart} (h : Arr TPart.enc 4 w a n xs) (hok : ∀ x ∈ xs, x.ok) (m : TMove) :
    Does Tryz.prog 29 [.slice a n c, .agg ⟨m.enc⟩] w (fun v w' => ∃ a' n' c', v = .tuple #[.slice a' n' c', .int .i64 (applyMoveM xs m).2] ∧ NewAt w.heap.size a' ∧ Own TPart.enc w' a' n' 81 (applyMoveM xs m).1 ∧ Ext w w') := by
  have hn := h.len
  generalize hr : applyMoveM xs m = r
  refine Does.of_vc tabok Tryz.func29 rfl rfl rfl (by kernel_rfl) ?_; conv => whnf
  refine SemK.box ?_
  intro b1 w1 g1 l1 e1 B1
  conv => whnf
  refine (spec_l25Ok (h.ext e1) hok).mono ?_
  rintro _ w3 ⟨rfl, e2⟩
  cases hz1 : partsB xs
  · conv => whnf
    simp [applyMoveM, hz1] at hr
    subst hr
    exact ⟨_, _, _, rfl, NewAt.nil, Own.nil, (Ext.trans e1 e2)⟩
  have hcn := partsB_cnt hz1
  have h40 := (partsB_mem hz1).1
  simp [applyMoveM, hz1] at hr
  conv => whnf
  refine SemK.buildSlice mk_52 (vs := []) (by rfl) (by rfl) (by simp [Value.cells]) (by decide) ?_
  intro b41 w41 g41 l41 e41 B41
  have G41 := Grow.new0 (enc := TPart.enc) TPart.enc_len B41 g41
  conv => whnf
  refine SemK.appendNew (enc := TPart.enc) mk_52 TPart.enc_len G41 (h.ext (Ext.trans (Ext.trans e1 e2) e41)) (by intro y _; simp [TPart.enc, cellish]) (by omega) (by omega) (Below.size e41) ?_
  intro a42 c42 w42 G42 m42 i42
  conv => whnf
  refine SemK.loadAgg (by kernel_rfl) (B1.ext (Ext.mod_trans (Ext.trans e2 e41) m42 (fun k hk => Nat.le_trans (Below.size e2) (blkIn_new G41.new k hk)))).cells rfl ?_
  conv => whnf
  refine (spec_l25Move G42.own hcn _).mono ?_
  rintro _ w45 ⟨rfl, m43, O44⟩
  conv => whnf
  with_reducible refine IfB.ndec (fun h46 => ?_) (fun h46 => ?_)
  · conv => whnf
    simp [moveM, h46, hz1] at hr
    subst hr
    exact ⟨_, _, _, rfl, NewAt.nil, Own.nil, (Ext.mod_trans (Ext.mod_trans (Ext.trans (Ext.trans e1 e2) e41) m42 (fun k hk => Nat.le_trans (Below.size (Ext.trans e1 e2)) (blkIn_new G41.new k hk))) m43 (fun k hk => Nat.le_trans (Below.size (Ext.trans e1 e2)) (blkIn_new G42.new k hk)))⟩
  · conv => whnf
    simp [moveM, h46, hz1] at hr
    subst hr
    exact ⟨_, _, _, rfl, (G42.new.mono (Below.size (Ext.trans e1 e2))), by simpa [List.take_add_one, *, moveM] using O44, (Ext.mod_trans (Ext.mod_trans (Ext.trans (Ext.trans e1 e2) e41) m42 (fun k hk => Nat.le_trans (Below.size (Ext.trans e1 e2)) (blkIn_new G41.new k hk))) m43 (fun k hk => Nat.le_trans (Below.size (Ext.trans e1 e2)) (blkIn_new G42.new k hk)))⟩
theorem impl_ApplyMoveC {w : World} {a : Option Addr} {n c : Nat} {xs : List TPart} (h : Arr TPart.enc 4 w a n xs) (hok : ∀ x ∈ xs, x.ok) (hnc : n ≤ c) (m : TMove) :
    Does Tryz.prog 28 [.slice a n c, .agg ⟨m.enc⟩] w (fun v w' => ∃ a' n' c', v = .tuple #[.slice a' n' c', .int .i64 (applyMoveM xs m).2] ∧ n' ≤ c' ∧ NewAt w.heap.size a' ∧ Own TPart.enc w' a' n' 81 (applyMoveM xs m).1 ∧ Ext w w') := by
  have hn := h.len
  generalize hr : applyMoveM xs m = r
  refine Does.of_vc tabok Tryz.func28 rfl rfl rfl (by kernel_rfl) ?_; conv => whnf
  refine SemK.box ?_
  intro b1 w1 g1 l1 e1 B1
  conv => whnf
  refine (impl_ValidParts (h.ext e1) hok hnc).mono ?_
  rintro _ w3 ⟨rfl, e2⟩
  cases hz1 : partsB xs
  · conv => whnf
    simp [applyMoveM, hz1] at hr
    subst hr
    exact ⟨_, _, _, rfl, Nat.le_refl _, NewAt.nil, Own.nil, (Ext.trans e1 e2)⟩
  have hcn := partsB_cnt hz1
  have h40 := (partsB_mem hz1).1
  simp [applyMoveM, hz1] at hr
  subst hr
  conv => whnf
  refine SemK.loadAgg (by kernel_rfl) (B1.ext e2).cells rfl ?_
  conv => whnf
  refine (impl_movedC (h.ext (Ext.trans e1 e2)) hcn (by omega) _).mono ?_
  rintro _ w47 ⟨a'41, n'42, c'43, rfl, L44, N44, O45, e46⟩
  conv => whnf
  exact ⟨_, _, _, rfl, L44, (N44.mono (Below.size (Ext.trans e1 e2))), O45, (Ext.trans (Ext.trans e1 e2) e46)⟩
theorem impl_ApplyMove {w : World} {a : Option Addr} {n c : Nat} {xs : List TPart} (h : Arr TPart.enc 4 w a n xs) (hok : ∀ x ∈ xs, x.ok) (hnc : n ≤ c) (m : TMove) :
    Does Tryz.prog 28 [.slice a n c, .agg ⟨m.enc⟩] w (fun v w' => ∃ a' n' c', v = .tuple #[.slice a' n' c', .int .i64 (applyMoveM xs m).2] ∧ NewAt w.heap.size a' ∧ Own TPart.enc w' a' n' 81 (applyMoveM xs m).1 ∧ Ext w w') :=
  (impl_ApplyMoveC h hok hnc m).mono fun _ _ ⟨a', n', c', h1, _, h2⟩ => ⟨a', n', c', h1, h2⟩
theorem impl_sizeMove (a : Option Addr) (n c : Nat) (w : World) : Does Tryz.prog 68 [.slice a n c] w (fun v w' => v = .int .i64 n ∧ w = w') := by
  refine Does.of_vc tabok Tryz.func68 rfl rfl rfl (by kernel_rfl) ?_; conv => whnf
  exact ⟨rfl, rfl⟩
theorem spec_ApplyMoves {w : World} {a a2 : Option Addr} {n c n2 c2 : Nat} {xs : List TPart} {ms : List TMove} (h : Arr TPart.enc 4 w a n xs) (hok : ∀ x ∈ xs, x.ok) (h2 : Arr TMove.enc 2 w a2 n2 ms) :
    Does Tryz.prog 26 [.slice a n c, .slice a2 n2 c2] w (fun v w' => ∃ a' n' c', v = .tuple #[.slice a' n' c', .int .i64 (applyMovesM xs ms).2.1, .int .i64 (applyMovesM xs ms).2.2] ∧ NewAt w.heap.size a' ∧ Own TPart.enc w' a' n' 81 (applyMovesM xs ms).1 ∧ Ext w w') := by
  have hn := h.len
  have hn2 := h2.len
  have hm2 := h2.le
  generalize hr : applyMovesM xs ms = r
  refine Does.of_vc tabok Tryz.func26 rfl rfl rfl (by kernel_rfl) ?_; conv => whnf
  refine (spec_l25Ok h hok).mono ?_
  rintro _ w2 ⟨rfl, e1⟩
  cases hz1 : partsB xs
  · conv => whnf
    simp [applyMovesM, hz1] at hr
    subst hr
    exact ⟨_, _, _, rfl, NewAt.nil, Own.nil, e1⟩
  have hcn := partsB_cnt hz1
  have h40 := (partsB_mem hz1).1
  conv => whnf
  refine SemK.buildSlice mk_52 (vs := []) (by rfl) (by rfl) (by simp [Value.cells]) (by decide) ?_
  intro b41 w41 g41 l41 e41 B41
  have G41 := Grow.new0 (enc := TPart.enc) TPart.enc_len B41 g41
  conv => whnf
  refine SemK.appendNew (enc := TPart.enc) mk_52 TPart.enc_len G41 (h.ext (Ext.trans e1 e41)) (by intro y _; simp [TPart.enc, cellish]) (by omega) (by omega) (Below.size e41) ?_
  intro a42 c42 w42 G42 m42 i42
  conv => whnf
  simp [applyMovesM, hz1] at hr
  have e42 : Ext w2 w42 := Ext.mod_trans e41 m42 (blkIn_new G41.new)
  refine LoopK.rule [1, 7, 8] (fun (k : Nat) vs w' => ∃ cur, vs = [.slice a2 n2 c2, .slice a42 n c42, .int .i64 k] ∧ k ≤ n2 ∧ Own TPart.enc w' a42 n 81 cur ∧ (∀ x ∈ cur, cntOk x) ∧ movesM cur (ms.drop k) k = movesM xs ms 0 ∧ Ext w2 w') (fun k => n2 - k) tab tabok (by kernel_rfl) 0
    ⟨_, rfl, by omega, G42.own, hcn, by simp, e42⟩ ?_
  rintro k g _ w' ⟨cur, rfl, hk, hO, hcur, hmv, hE⟩
  have NA := G42.new
  conv => whnf
  with_reducible refine IfB.dec (fun h43 => ?_) (fun h43 => ?_)
  · conv => whnf
    obtain ⟨x44, hx44⟩ : ∃ x, ms[k]? = some x := get_of_lt (by omega)
    refine SemK.index (by kernel_rfl) (h2.ext (Ext.trans e1 hE)) k rfl hx44 ?_
    intro b45 o45 _ hb45
    conv => whnf
    refine SemK.loadAgg (by kernel_rfl) hb45 rfl ?_
    conv => whnf
    refine (spec_l25Move hO hcur _).mono ?_
    rintro _ w48 ⟨rfl, m46, O47⟩
    conv => whnf
    with_reducible refine IfB.ndec (fun h49 => ?_) (fun h49 => ?_)
    · conv => whnf
      have hz : movesM xs ms 0 = (cur, k) := by rw [← hmv, drop_cons hx44, movesM, if_neg h49]
      rw [hz] at hr
      subst hr
      exact ⟨_, _, _, rfl, NA.mono e1.size, by simpa [h49] using O47, Ext.trans e1 (Ext.mod_trans hE m46 (blkIn_new NA))⟩
    · conv => whnf
      refine SemK.add (((k + 1 : Nat) : Int)) (by omega) (by omega) (by omega) ?_
      conv => whnf
      exact ⟨k + 1, by omega, _, rfl, by omega, by simpa [h49] using O47, moveList_ok hcur h49, by rw [← hmv, drop_cons hx44, movesM, if_pos h49], Ext.mod_trans hE m46 (blkIn_new NA)⟩
  · conv => whnf
    have kn50 : k = n2 := by omega
    have tk51 : List.take k ms = ms := List.take_of_length_le (by omega)
    have hz : movesM xs ms 0 = (cur, n2) := by rw [← hmv, kn50, List.drop_eq_nil_of_le (by omega)]; rfl
    rw [hz] at hr
    subst hr
    exact ⟨_, _, _, rfl, NA.mono e1.size, hO, Ext.trans e1 hE⟩
theorem impl_ApplyMoves {w : World} {a a2 : Option Addr} {n c n2 c2 : Nat} {xs : List TPart} {ms : List TMove} (h : Arr TPart.enc 4 w a n xs) (hok : ∀ x ∈ xs, x.ok) (hnc : n ≤ c) (h2 : Arr TMove.enc 2 w a2 n2 ms) :
    Does Tryz.prog 25 [.slice a n c, .slice a2 n2 c2] w (fun v w' => ∃ a' n' c', v = .tuple #[.slice a' n' c', .int .i64 (applyMovesM xs ms).2.1, .int .i64 (applyMovesM xs ms).2.2] ∧ NewAt w.heap.size a' ∧ Own TPart.enc w' a' n' 81 (applyMovesM xs ms).1 ∧ Ext w w') := by
  have hn := h.len
  have hn2 := h2.len
  have hm2 := h2.le
  generalize hr : applyMovesM xs ms = r
  refine Does.of_vc tabok Tryz.func25 rfl rfl rfl (by kernel_rfl) ?_; conv => whnf
  refine (impl_ValidParts h hok hnc).mono ?_
  rintro _ w2 ⟨rfl, e1⟩
  cases hz1 : partsB xs
  · conv => whnf
    simp [applyMovesM, hz1] at hr
    subst hr
    exact ⟨_, _, _, rfl, NewAt.nil, Own.nil, e1⟩
  have hcn := partsB_cnt hz1
  have h40 := (partsB_mem hz1).1
  conv => whnf
  refine SemK.buildSlice mk_52 (vs := []) (by rfl) (by rfl) (by simp [Value.cells]) (by decide) ?_
  intro b41 w41 g41 l41 e41 B41
  have G41 := Grow.new0 (enc := TPart.enc) TPart.enc_len B41 g41
  conv => whnf
  refine SemK.appendNew (enc := TPart.enc) mk_52 TPart.enc_len G41 (h.ext (Ext.trans e1 e41)) (by intro y _; simp [TPart.enc, cellish]) (by omega) (by omega) (Below.size e41) ?_
  intro a42 c42 w42 G42 m42 i42
  conv => whnf
  simp [applyMovesM, hz1] at hr
  have e42 : Ext w2 w42 := Ext.mod_trans e41 m42 (blkIn_new G41.new)
  refine LoopK.rule [1, 7, 18, 19, 20] (fun (k : Nat) vs w' => ∃ a3 c3 cur, vs = [.slice a2 n2 c2, .slice a3 n c3, .slice a2 n2 c2, .int .i64 n2, .int .i64 k] ∧ k ≤ n2 ∧ NewAt w2.heap.size a3 ∧ Own TPart.enc w' a3 n 81 cur ∧ (∀ x ∈ cur, cntOk x) ∧ movesM cur (ms.drop k) k = movesM xs ms 0 ∧ Ext w2 w') (fun k => n2 - k) tab tabok (by kernel_rfl) 0
    ⟨_, _, _, rfl, by omega, G42.new, G42.own, hcn, by simp, e42⟩ ?_
  rintro k g _ w' ⟨a3, c3, cur, rfl, hk, NA, hO, hcur, hmv, hE⟩
  conv => whnf
  with_reducible refine IfB.dec (fun h43 => ?_) (fun h43 => ?_)
  · conv => whnf
    obtain ⟨x44, hx44⟩ : ∃ x, ms[k]? = some x := get_of_lt (by omega)
    refine SemK.index (by kernel_rfl) (h2.ext (Ext.trans e1 hE)) k rfl hx44 ?_
    intro b45 o45 _ hb45
    conv => whnf
    refine SemK.loadAgg (by kernel_rfl) hb45 rfl ?_
    conv => whnf
    refine SemK.alloc (z := .agg #[.int .i64 0, .int .i64 0]) (by kernel_rfl) ?_
    intro b46 w46 g46 l46 e46 B46
    conv => whnf
    refine SemK.storeAll (by kernel_rfl) B46 (vs := x44.enc) rfl rfl (by simp [TMove.enc, cellish]) ?_
    intro w47 c47 B47
    conv => whnf
    refine SemK.loadAgg (by kernel_rfl) B47.cells rfl ?_
    conv => whnf
    refine (impl_moved ((hO.ext (Ext.but_trans e46 c47.but g46)).arr TPart.enc_len) hcur (by omega) _).mono ?_
    rintro _ w54 ⟨a'48, n'49, c'50, rfl, N51, O52, e53⟩
    conv => whnf
    with_reducible refine IfB.ndec (fun h55 => ?_) (fun h55 => ?_)
    · conv => whnf
      rw [moveM_code] at h55
      have hz : movesM xs ms 0 = (cur, k) := by rw [← hmv, drop_cons hx44, movesM, if_neg h55]
      rw [hz] at hr
      subst hr
      have e9 := Ext.trans (Ext.but_trans e46 c47.but g46) e53
      exact ⟨_, _, _, rfl, NA.mono e1.size, hO.ext e9, Ext.trans e1 (Ext.trans hE e9)⟩
    · conv => whnf
      refine SemK.add (((k + 1 : Nat) : Int)) (by omega) (by omega) (by omega) ?_
      conv => whnf
      rw [moveM_code] at h55
      have hml : (moveM cur x44).1 = moveList cur x44 := by simp [moveM, h55]
      rw [hml] at O52
      have hn' : n = n'49 := by rw [← O52.1, moveList_len, hO.1]
      subst hn'
      have e9 := Ext.trans (Ext.but_trans e46 c47.but g46) e53
      exact ⟨k + 1, by omega, _, _, _, rfl, by omega, N51.mono (by have := hE.size; have := e46.size; have := c47.size; omega), O52, moveList_ok hcur h55, by rw [← hmv, drop_cons hx44, movesM, if_pos h55], Ext.trans hE e9⟩
  · conv => whnf
    have kn56 : k = n2 := by omega
    have tk57 : List.take k ms = ms := List.take_of_length_le (by omega)
    refine (impl_sizeMove _ _ _ _).mono ?_
    rintro _ _ ⟨rfl, rfl⟩
    conv => whnf
    have hz : movesM xs ms 0 = (cur, n2) := by rw [← hmv, kn56, List.drop_eq_nil_of_le (by omega)]; rfl
    rw [hz] at hr
    subst hr
    exact ⟨_, _, _, rfl, NA.mono e1.size, hO, Ext.trans e1 hE⟩
end Go.Proofs.YtfgbijddjoojbaaGreatDoor
