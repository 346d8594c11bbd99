/- Contracts of functions of the given program, of the reference and of the laws: each says what a call returns, for all arguments that meet the premises that the theorem itself names. -/
import Derived.Test.YtjlhbaemfiaeiaaStock3
namespace Go.Proofs.Ytjlhbaemfiaeiaa
open Go Go.RowKit Go.Vc Go.M
theorem impl_moved2 {w : World} {a : Option Addr} {n c : Nat} {xs : List TPart} (h : Arr TPart.enc 4 w a n xs) (hcn : ∀ x ∈ xs, cntOk x) (hn40 : n ≤ 40) (m : TMove) :
    Does Try.prog 125 [.slice a n c, .agg ⟨m.enc⟩] w (fun v w' => ∃ a' n' c', v = .tuple #[.slice a' n' c', .int .i64 (moveM xs m).2] ∧ n' ≤ c' ∧ NewAt w.heap.size a' ∧ Own TPart.enc w' a' n' 64 (moveM xs m).1 ∧ Ext w w') := by
  have hn := h.len
  generalize hr : moveM xs m = r
  obtain ⟨p, q⟩ := m
  refine Does.of_vc tabok Try.func125 rfl rfl rfl (by kernel_rfl) ?_; conv => whnf
  refine SemK.box ?_
  intro b1 w1 g1 l1 e1 B1
  conv => whnf
  refine DrawK.det tabok mixed (by kernel_rfl) (by kernel_rfl) ?_
  conv => whnf
  refine DSemK.load1 (by kernel_rfl) B1.cells (k := 0) rfl ?_
  conv => whnf
  refine DDoes.same (fun _ _ => impl_sizePart _ _ _ _) ?_
  conv => whnf
  refine DSemK.sub _ rfl (by omega) (by omega) ?_
  conv => whnf
  refine DDoes.same (fun _ _ => impl_inside _ _ _ _) ?_
  cases hz1 : inB p 0 ((n : Int) - 1)
  · conv => whnf
    intro w41 e41
    conv => whnf
    simp [moveM, moveCode, hn, hz1] at hr
    subst hr
    exact ⟨_, _, _, rfl, Nat.le_refl _, NewAt.nil, Own.nil, (Ext.trans e1 e41)⟩
  obtain ⟨k, x, hk, _, hx⟩ := moveCode_pos (m := ⟨p, q⟩) (by rw [hn]; exact hz1)
  simp only at hk
  subst hk
  have hxc := hcn x (List.mem_of_getElem? hx)
  unfold cntOk at hxc
  conv => whnf
  refine DSemK.load1 (by kernel_rfl) B1.cells (k := 1) rfl ?_
  conv => whnf
  refine DDoes.same (fun _ _ => impl_inside _ _ _ _) ?_
  cases hz2 : inB q (-1000000) 1000000
  · conv => whnf
    intro w567 e567
    conv => whnf
    simp [moveM, moveCode, hn, hz1, hz2] at hr
    subst hr
    exact ⟨_, _, _, rfl, Nat.le_refl _, NewAt.nil, Own.nil, (Ext.trans e1 e567)⟩
  have hq : -1000000 ≤ q ∧ q ≤ 1000000 := by simpa [inB] using hz2
  have hkl : k < n := by rw [← hn]; exact (List.getElem?_eq_some_iff.1 hx).1
  conv => whnf
  intro w522 e522
  conv => whnf
  refine SemK.buildSlice mk_47 (vs := []) (by rfl) (by rfl) (by simp [Value.cells]) (by decide) ?_
  intro b523 w523 g523 l523 e523 B523
  have G523 := Grow.new0 (enc := TPart.enc) TPart.enc_len B523 g523
  conv => whnf
  refine SemK.appendNew (enc := TPart.enc) mk_47 TPart.enc_len G523 (h.ext (Ext.trans (Ext.trans e1 e522) e523)) (by intro y _; simp [TPart.enc, cellish]) (by omega) (by omega) (Below.size e523) ?_
  intro a524 c524 w524 G524 m524 i524
  conv => whnf
  refine DrawK.tail tabok mixed 11 (by kernel_rfl) (by kernel_rfl) ?_
  conv => whnf
  refine DSemK.load1 (by kernel_rfl) (B1.ext (Ext.mod_trans (Ext.trans e522 e523) m524 (fun k hk => Nat.le_trans (Below.size e522) (blkIn_new G523.new k hk)))).cells (k := 0) rfl ?_
  conv => whnf
  obtain ⟨b526, rfl⟩ := (G524.own).some (by omega)
  have gb526 : w522.heap.size ≤ b526 := G524.new _ rfl
  have lb526 : b526 < w524.heap.size := G524.lt _ rfl
  refine DSemK.indexOwn (sz := 4) (by kernel_rfl) k rfl (by omega) ?_
  have hb526 := Own.elem TPart.enc_len G524.own hx
  conv => whnf
  refine DSemK.load1 (by kernel_rfl) hb526 (k := 1) rfl ?_
  conv => whnf
  refine DSemK.load1 (by kernel_rfl) (B1.ext (Ext.mod_trans (Ext.trans e522 e523) m524 (fun k hk => Nat.le_trans (Below.size e522) (blkIn_new G523.new k hk)))).cells (k := 1) rfl ?_
  conv => whnf
  refine DSemK.add (x.count + q) rfl (by omega) (by omega) ?_
  conv => whnf
  refine DSemK.indexOwn (sz := 4) (by kernel_rfl) k rfl (by omega) ?_
  have hb528 := Own.elem TPart.enc_len G524.own hx
  conv => whnf
  intro w529 e529
  conv => whnf
  refine SemK.storeGrow1 (k := k) (j := 1) (by kernel_rfl) TPart.enc_len (G524.ext e529) hx (by decide) rfl { x with count := x.count + q } rfl ?_
  intro w530 c530 B530
  have hx530 := set_get hx ({ x with count := x.count + q })
  conv => whnf
  refine SemK.load1 (by kernel_rfl) (B1.ext (Ext.but_trans (Ext.trans (Ext.mod_trans (Ext.trans e522 e523) m524 (fun k hk => Nat.le_trans (Below.size e522) (blkIn_new G523.new k hk))) e529) c530.but (Nat.le_trans (Below.size e522) gb526))).cells (k := 0) rfl ?_
  conv => whnf
  refine SemK.indexOwn (sz := 4) (by kernel_rfl) k rfl (by omega) ?_
  have hb532 := Own.elem TPart.enc_len B530.own hx530
  conv => whnf
  refine SemK.load1 (by kernel_rfl) hb532 (k := 1) rfl ?_
  conv => whnf
  with_reducible refine IfB.dec (fun h533 => ?_) (fun h533 => ?_)
  · conv => whnf
    simp [moveM, moveCode, moveList, hn, hx, h533, hz1, hz2] at hr
    subst hr
    exact ⟨_, _, _, rfl, Nat.le_refl _, NewAt.nil, Own.nil, (Ext.but_trans (Ext.trans (Ext.mod_trans (Ext.trans (Ext.trans e1 e522) e523) m524 (fun k hk => Nat.le_trans (Below.size (Ext.trans e1 e522)) (blkIn_new G523.new k hk))) e529) c530.but (Nat.le_trans (Below.size (Ext.trans e1 e522)) gb526))⟩
  · conv => whnf
    refine SemK.load1 (by kernel_rfl) (B1.ext (Ext.but_trans (Ext.trans (Ext.mod_trans (Ext.trans e522 e523) m524 (fun k hk => Nat.le_trans (Below.size e522) (blkIn_new G523.new k hk))) e529) c530.but (Nat.le_trans (Below.size e522) gb526))).cells (k := 0) rfl ?_
    conv => whnf
    refine SemK.indexOwn (sz := 4) (by kernel_rfl) k rfl (by omega) ?_
    have hb535 := Own.elem TPart.enc_len B530.own hx530
    conv => whnf
    refine SemK.load1 (by kernel_rfl) hb535 (k := 1) rfl ?_
    conv => whnf
    with_reducible refine IfB.dec (fun h536 => ?_) (fun h536 => ?_)
    · conv => whnf
      simp [moveM, moveCode, moveList, hn, hx, h533, h536, hz1, hz2] at hr
      subst hr
      exact ⟨_, _, _, rfl, Nat.le_refl _, NewAt.nil, Own.nil, (Ext.but_trans (Ext.trans (Ext.mod_trans (Ext.trans (Ext.trans e1 e522) e523) m524 (fun k hk => Nat.le_trans (Below.size (Ext.trans e1 e522)) (blkIn_new G523.new k hk))) e529) c530.but (Nat.le_trans (Below.size (Ext.trans e1 e522)) gb526))⟩
    · conv => whnf
      simp [moveM, moveCode, moveList, hn, hx, h533, h536, hz1, hz2] at hr
      subst hr
      exact ⟨_, _, _, rfl, B530.le.1, (B530.new.mono (Below.size (Ext.trans e1 e522))), B530.own, (Ext.but_trans (Ext.trans (Ext.mod_trans (Ext.trans (Ext.trans e1 e522) e523) m524 (fun k hk => Nat.le_trans (Below.size (Ext.trans e1 e522)) (blkIn_new G523.new k hk))) e529) c530.but (Nat.le_trans (Below.size (Ext.trans e1 e522)) gb526))⟩
theorem impl_ApplyMove2 {w : World} {a : Option Addr} {n c : Nat} {xs : List TPart} (h : Arr TPart.enc 4 w a n xs) (hok : ∀ x ∈ xs, x.ok) (hnc : n ≤ c) (m : TMove) :
    Does Try.prog 49 [.slice a n c, .agg ⟨m.enc⟩] w (fun v w' => ∃ a' n' c', v = .tuple #[.slice a' n' c', .int .i64 (applyMoveM xs m).2] ∧ n' ≤ c' ∧ NewAt w.heap.size a' ∧ Own TPart.enc w' a' n' 64 (applyMoveM xs m).1 ∧ Ext w w') := by
  have hn := h.len
  generalize hr : applyMoveM xs m = r
  refine Does.of_vc tabok Try.func49 rfl rfl rfl (by kernel_rfl) ?_; conv => whnf
  refine SemK.box ?_
  intro b1 w1 g1 l1 e1 B1
  conv => whnf
  refine (impl_ValidParts (h.ext e1) hok hnc).mono ?_
  rintro _ w3 ⟨rfl, e2⟩
  cases hz1 : partsB xs
  · conv => whnf
    simp [applyMoveM, hz1] at hr
    subst hr
    exact ⟨_, _, _, rfl, Nat.le_refl _, NewAt.nil, Own.nil, (Ext.trans e1 e2)⟩
  have hcn := partsB_cnt hz1
  have h40 := (partsB_mem hz1).1
  simp [applyMoveM, hz1] at hr
  subst hr
  conv => whnf
  refine SemK.loadAgg (by kernel_rfl) (B1.ext e2).cells rfl ?_
  conv => whnf
  refine (impl_moved2 (h.ext (Ext.trans e1 e2)) hcn (by omega) _).mono ?_
  rintro _ w47 ⟨a'41, n'42, c'43, rfl, L44, N44, O45, e46⟩
  conv => whnf
  exact ⟨_, _, _, rfl, L44, (N44.mono (Below.size (Ext.trans e1 e2))), O45, (Ext.trans (Ext.trans e1 e2) e46)⟩
end Go.Proofs.Ytjlhbaemfiaeiaa
