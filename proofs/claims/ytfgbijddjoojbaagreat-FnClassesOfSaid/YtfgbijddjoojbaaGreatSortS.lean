/- Contracts of functions of the given program, of the reference and of the laws: each says what a call returns, for all arguments that meet the premises that the theorem itself names. -/
import Derived.Test.YtfgbijddjoojbaaGreatSortM
namespace Go.M
open Go Go.Vc
noncomputable def sbL (r : Int → Int → Prop) (L : List Int) : Nat → List Int
  | 0 => []
  | k + 1 => sbL r L k ++ sortL r ((L.drop (20 * k)).take 20)
theorem sbL_len (r : Int → Int → Prop) (L : List Int) : ∀ k, 20 * k ≤ L.length → (sbL r L k).length = 20 * k
  | 0, _ => rfl
  | k + 1, h => by
    have := sbL_len r L k (by omega)
    simp only [sbL, List.length_append, sortL_len', List.length_take, List.length_drop]
    omega
theorem rise_split {L : List Int} (h : Rise L) (k : Nat) : ∀ x ∈ L.take k, ∀ y ∈ L.drop k, x < y := by
  have e : L.take k ++ L.drop k = L := List.take_append_drop k L
  unfold Rise at h
  rw [← e] at h
  exact (List.pairwise_append.1 h).2.2
end Go.M
namespace Go.Proofs.YtfgbijddjoojbaaGreat
open Go Go.RowKit Go.Vc Go.M
theorem lib_stableInt {r : Int → Int → Prop} (hs : Swo r) {cmp : Int → Int → Int} (hr : ∀ i j, cmp i j < 0 ↔ r i j) (hi : ∀ i j, i64ok (cmp i j)) {w : World} {b n c t g : Nat} {cap : List Value} {L : List Int} (h : Own eI w (some ⟨b, 0, none⟩) n t L) (hL : Rise L) (hn40 : n ≤ 40)
    (hg : ∀ i ∈ L, ∀ j ∈ L, ∀ w', Mod (blkIn (some ⟨b, 0, none⟩)) w w' → Does Tryz.prog g (.int .i64 i :: .int .i64 j :: cap) w' (fun v w'' => v = .int .i64 (cmp i j) ∧ Ext w' w'')) :
    Does Tryz.prog 82 [.slice (some ⟨b, 0, none⟩) n c, .int .i64 n, .func (.func g) ⟨[]⟩ ⟨cap⟩] w (fun v w' => v = .tuple #[] ∧ Mod (blkIn (some ⟨b, 0, none⟩)) w w' ∧ Own eI w' (some ⟨b, 0, none⟩) n t (sortL r L)) := by
  have hn := h.1
  have hsub : ∀ {M : List Int}, M.Sublist L → Rise M := fun hh => rise_sub hL hh
  refine Does.of_vc tabok Tryz.func82 rfl rfl rfl (by kernel_rfl) ?_; conv => whnf
  refine LoopK.rule [0, 1, 2, 6, 7, 8] (fun (k : Nat) vs w' => vs = [.slice (some ⟨b, 0, none⟩) n c, .int .i64 n, .func (.func g) ⟨[]⟩ ⟨cap⟩, .int .i64 20, .int .i64 (20 * k : Nat), .int .i64 (20 * k + 20 : Nat)] ∧ 20 * k ≤ n ∧ Mod (blkIn (some ⟨b, 0, none⟩)) w w' ∧ Own eI w' (some ⟨b, 0, none⟩) n t (sbL r L k ++ (L.drop (20 * k) ++ []))) (fun k => 2 - k) tab tabok (by kernel_rfl) 0 ⟨rfl, by omega, Vc.Mod.refl _ _, by simpa [sbL] using h⟩ ?_
  rintro k g1 _ w1 ⟨rfl, hk, hM, hO⟩
  have hsl := sbL_len r L k (by omega)
  by_cases hkb : 20 * k + 20 ≤ n
  · have hIns : Does Tryz.prog 119 [.slice (some ⟨b, 0, none⟩) n c, .int .i64 (20 * k : Nat), .int .i64 (20 * k + 20 : Nat), .func (.func g) ⟨[]⟩ ⟨cap⟩] w1 (fun v w' => v = .tuple #[] ∧ Mod (blkIn (some ⟨b, 0, none⟩)) w1 w' ∧ Own eI w' (some ⟨b, 0, none⟩) n t (sbL r L (k + 1) ++ (L.drop (20 * (k + 1)) ++ []))) := by
      have hd : L.drop (20 * k) = (L.drop (20 * k)).take 20 ++ L.drop (20 * (k + 1)) := by
        have := List.take_append_drop 20 (L.drop (20 * k))
        rw [List.drop_drop] at this
        rw [show 20 * (k + 1) = 20 * k + 20 by omega]
        exact this.symm
      have hO1 : Own eI w1 (some ⟨b, 0, none⟩) n t (sbL r L k ++ ((L.drop (20 * k)).take 20 ++ (L.drop (20 * (k + 1)) ++ []))) := by
        rw [← List.append_assoc ((L.drop (20 * k)).take 20), ← hd]
        exact hO
      have hm : ∀ i ∈ (L.drop (20 * k)).take 20, i ∈ L := fun i hi => List.mem_of_mem_drop (List.mem_of_mem_take hi)
      have := lib_insertionInt (c := c) hs hr hi hO1 (hsub ((List.take_sublist _ _).trans (List.drop_sublist _ _))) (fun i hi j hj w' M => hg i (hm i hi) j (hm j hj) w' (hM.trans M)) (p := 20 * k) (q := 20 * k + 20) hsl (by rw [List.length_take, List.length_drop]; omega) (by omega)
      have e : sbL r L (k + 1) ++ (L.drop (20 * (k + 1)) ++ []) = sbL r L k ++ (sortL r ((L.drop (20 * k)).take 20) ++ (L.drop (20 * (k + 1)) ++ [])) := by simp [sbL]
      rw [e]
      exact this
    conv => whnf
    refine IfB.yes (by omega) ?_
    conv => whnf
    refine (hIns).mono ?_
    rintro _ w43 ⟨rfl, m41, O42⟩
    conv => whnf
    refine SemK.add (((20 * k + 20 + 20 : Nat) : Int)) (by omega) (by omega) (by omega) ?_
    conv => whnf
    exact ⟨k + 1, by omega, rfl, by omega, (hM.trans m41), O42⟩
  · have hIns : Does Tryz.prog 119 [.slice (some ⟨b, 0, none⟩) n c, .int .i64 (20 * k : Nat), .int .i64 n, .func (.func g) ⟨[]⟩ ⟨cap⟩] w1 (fun v w' => v = .tuple #[] ∧ Mod (blkIn (some ⟨b, 0, none⟩)) w1 w' ∧ Own eI w' (some ⟨b, 0, none⟩) n t (sbL r L k ++ (sortL r (L.drop (20 * k)) ++ []))) := by
      have hm : ∀ i ∈ L.drop (20 * k), i ∈ L := fun i hi => List.mem_of_mem_drop hi
      exact lib_insertionInt (c := c) hs hr hi hO (hsub (List.drop_sublist _ _)) (fun i hi j hj w' M => hg i (hm i hi) j (hm j hj) w' (hM.trans M)) (p := 20 * k) (q := n) hsl (by rw [List.length_drop]; omega) (by omega)
    by_cases hsmall : n ≤ 20
    · have he : sbL r L k ++ (sortL r (L.drop (20 * k)) ++ []) = sortL r L := by
        have hk01 : k = 0 ∨ k = 1 := by omega
        rcases hk01 with rfl | rfl
        · simp [sbL]
        · have hd : L.drop (20 * 1) = [] := List.drop_eq_nil_of_le (by omega)
          rw [hd]
          simp [sbL, sortL, List.take_of_length_le (show L.length ≤ 20 by omega)]
      rw [he] at hIns
      have hns : ¬ (20 : Int) < n := by omega
      conv => whnf
      refine IfB.no (by omega) ?_
      conv => whnf
      refine (hIns).mono ?_
      rintro _ w43 ⟨rfl, m41, O42⟩
      conv => whnf
      refine LoopK.rule [0, 1, 2, 6] (fun (_ : Nat) vs w' => vs = [.slice (some ⟨b, 0, none⟩) n c, .int .i64 n, .func (.func g) ⟨[]⟩ ⟨cap⟩, .int .i64 20] ∧ Mod (blkIn (some ⟨b, 0, none⟩)) w w' ∧ Own eI w' (some ⟨b, 0, none⟩) n t (sortL r L)) (fun _ => 0) tab tabok (by kernel_rfl) 0 ⟨rfl, hM.trans m41, O42⟩ ?_
      rintro _ g2 _ w2 ⟨rfl, hM2, hO2⟩
      conv => whnf
      refine IfB.no (by omega) ?_
      conv => whnf
      exact ⟨rfl, hM2, hO2⟩
    · have he : sbL r L k ++ (sortL r (L.drop (20 * k)) ++ []) = [] ++ (sortL r (L.take 20) ++ (sortL r (L.drop 20) ++ [])) := by
        have hk12 : k = 1 ∨ (k = 2 ∧ n = 40) := by omega
        rcases hk12 with rfl | ⟨rfl, h40⟩
        · simp [sbL]
        · have hd : L.drop (20 * 2) = [] := List.drop_eq_nil_of_le (by omega)
          have ht : (L.drop (20 * 1)).take 20 = L.drop 20 := List.take_of_length_le (by simp; omega)
          rw [hd]
          simp only [sbL, ht]
          simp [sortL]
      rw [he] at hIns
      have hSM : ∀ u, Mod (blkIn (some ⟨b, 0, none⟩)) w u → Own eI u (some ⟨b, 0, none⟩) n t ([] ++ (sortL r (L.take 20) ++ (sortL r (L.drop 20) ++ []))) → Does Tryz.prog 120 [.slice (some ⟨b, 0, none⟩) n c, .int .i64 0, .int .i64 20, .int .i64 n, .func (.func g) ⟨[]⟩ ⟨cap⟩] u (fun v w' => v = .tuple #[] ∧ Mod (blkIn (some ⟨b, 0, none⟩)) u w' ∧ Own eI w' (some ⟨b, 0, none⟩) n t (sortL r L)) := fun u hu hOu => by
        have hmt : ∀ x ∈ sortL r (L.take 20), x ∈ L.take 20 := fun x hx => sortL_mem' hx
        have hmd : ∀ x ∈ sortL r (L.drop 20), x ∈ L.drop 20 := fun x hx => sortL_mem' hx
        have hmem : ∀ x ∈ sortL r (L.take 20) ++ sortL r (L.drop 20), x ∈ L := fun x hx => by
          rcases List.mem_append.1 hx with hx | hx
          · exact List.mem_of_mem_take (hmt x hx)
          · exact List.mem_of_mem_drop (hmd x hx)
        have := lib_symMergeInt (c := c) hs hr (show n ≤ 1000000 by omega) n (A := []) (B := []) (by rw [sortL_len', sortL_len', List.length_take, List.length_drop]; omega) (by rw [sortL_len', List.length_take]; omega) (by rw [sortL_len', List.length_drop]; omega) hOu
          (hs.sortL (rise_nodup (hsub (List.take_sublist _ _)))) (hs.sortL (rise_nodup (hsub (List.drop_sublist _ _)))) (fun x hx y hy => rise_split hL 20 x (hmt x hx) y (hmd y hy))
          (fun i hi j hj w' M => hg i (hmem i hi) j (hmem j hj) w' (hu.trans M)) (p := 0) (m := 20) (q := n) rfl (by rw [sortL_len', List.length_take]; omega) (by rw [sortL_len', List.length_drop]; omega)
        refine this.mono ?_
        rintro _ w' ⟨rfl, M1, M, hP, hW, hO2⟩
        have hP2 : M.Perm L := hP.trans (((sortL_perm r _).append (sortL_perm r _)).trans (by rw [List.take_append_drop]))
        rw [hs.is (rise_nodup hL) hP2 hW] at hO2
        exact ⟨rfl, M1, by simpa using hO2⟩
      conv => whnf
      refine IfB.no (by omega) ?_
      conv => whnf
      refine (hIns).mono ?_
      rintro _ w43 ⟨rfl, m41, O42⟩
      conv => whnf
      refine LoopK.rule [0, 1, 2, 6] (fun (s : Nat) vs w' => (s = 1 ∧ vs = [.slice (some ⟨b, 0, none⟩) n c, .int .i64 n, .func (.func g) ⟨[]⟩ ⟨cap⟩, .int .i64 20] ∧ Mod (blkIn (some ⟨b, 0, none⟩)) w w' ∧ Own eI w' (some ⟨b, 0, none⟩) n t ([] ++ (sortL r (L.take 20) ++ (sortL r (L.drop 20) ++ [])))) ∨ (s = 0 ∧ vs = [.slice (some ⟨b, 0, none⟩) n c, .int .i64 n, .func (.func g) ⟨[]⟩ ⟨cap⟩, .int .i64 40] ∧ Mod (blkIn (some ⟨b, 0, none⟩)) w w' ∧ Own eI w' (some ⟨b, 0, none⟩) n t (sortL r L))) (fun s => s) tab tabok (by kernel_rfl) 1 (.inl ⟨rfl, rfl, hM.trans m41, O42⟩) ?_
      rintro s g2 _ w2 (⟨rfl, rfl, hM2, hO2⟩ | ⟨rfl, rfl, hM2, hO2⟩)
      · have h20 : (20 : Int) < n := by omega
        conv => whnf
        refine IfB.yes (by omega) ?_
        conv => whnf
        refine SemK.mul 40 (by omega) (by omega) (by omega) ?_
        conv => whnf
        refine LoopK.rule [0, 1, 2, 6, 7, 8] (fun (s : Nat) vs w' => (s = 1 ∧ vs = [.slice (some ⟨b, 0, none⟩) n c, .int .i64 n, .func (.func g) ⟨[]⟩ ⟨cap⟩, .int .i64 20, .int .i64 0, .int .i64 40] ∧ Mod (blkIn (some ⟨b, 0, none⟩)) w w' ∧ Own eI w' (some ⟨b, 0, none⟩) n t ([] ++ (sortL r (L.take 20) ++ (sortL r (L.drop 20) ++ [])))) ∨ (s = 0 ∧ vs = [.slice (some ⟨b, 0, none⟩) n c, .int .i64 n, .func (.func g) ⟨[]⟩ ⟨cap⟩, .int .i64 20, .int .i64 40, .int .i64 80] ∧ Mod (blkIn (some ⟨b, 0, none⟩)) w w' ∧ Own eI w' (some ⟨b, 0, none⟩) n t (sortL r L))) (fun s => s) tab tabok (by kernel_rfl) 1 (.inl ⟨rfl, rfl, hM2, hO2⟩) ?_
        rintro s g3 _ w3 (⟨rfl, rfl, hM3, hO3⟩ | ⟨rfl, rfl, hM3, hO3⟩)
        · by_cases h40 : n = 40
          · have hSM40 : Does Tryz.prog 120 [.slice (some ⟨b, 0, none⟩) n c, .int .i64 0, .int .i64 20, .int .i64 40, .func (.func g) ⟨[]⟩ ⟨cap⟩] w3 (fun v w' => v = .tuple #[] ∧ Mod (blkIn (some ⟨b, 0, none⟩)) w3 w' ∧ Own eI w' (some ⟨b, 0, none⟩) n t (sortL r L)) := by
              have := hSM w3 hM3 hO3
              rw [show ((n : Nat) : Int) = 40 by omega] at this
              exact this
            conv => whnf
            refine IfB.yes (by omega) ?_
            conv => whnf
            refine SemK.add _ rfl (by omega) (by omega) ?_
            conv => whnf
            refine (hSM40).mono ?_
            rintro _ w46 ⟨rfl, m44, O45⟩
            conv => whnf
            refine SemK.mul _ rfl (by omega) (by omega) ?_
            conv => whnf
            refine SemK.add _ rfl (by omega) (by omega) ?_
            conv => whnf
            exact ⟨0, by omega, .inr ⟨rfl, rfl, (hM3.trans m44), O45⟩⟩
          · have hSMn := hSM w3 hM3 hO3
            conv => whnf
            refine IfB.no (by omega) ?_
            conv => whnf
            refine SemK.add _ rfl (by omega) (by omega) ?_
            conv => whnf
            refine IfB.yes (by omega) ?_
            conv => whnf
            refine (hSMn).mono ?_
            rintro _ w46 ⟨rfl, m44, O45⟩
            conv => whnf
            refine SemK.mul _ rfl (by omega) (by omega) ?_
            conv => whnf
            exact ⟨0, by omega, .inr ⟨rfl, rfl, (hM3.trans m44), O45⟩⟩
        · conv => whnf
          refine IfB.no (by omega) ?_
          conv => whnf
          refine SemK.add _ rfl (by omega) (by omega) ?_
          conv => whnf
          refine IfB.no (by omega) ?_
          conv => whnf
          refine SemK.mul _ rfl (by omega) (by omega) ?_
          conv => whnf
          exact ⟨0, by omega, .inr ⟨rfl, rfl, hM3, hO3⟩⟩
      · have h40 : ¬ (40 : Int) < n := by omega
        conv => whnf
        refine IfB.no (by omega) ?_
        conv => whnf
        exact ⟨rfl, hM2, hO2⟩
theorem lib_SortStableInt {r : Int → Int → Prop} (hs : Swo r) {cmp : Int → Int → Int} (hr : ∀ i j, cmp i j < 0 ↔ r i j) (hi : ∀ i j, i64ok (cmp i j)) {w : World} {b n c t g : Nat} {cap : List Value} {L : List Int} (h : Own eI w (some ⟨b, 0, none⟩) n t L) (hL : Rise L) (hn40 : n ≤ 40)
    (hg : ∀ i ∈ L, ∀ j ∈ L, ∀ w', Mod (blkIn (some ⟨b, 0, none⟩)) w w' → Does Tryz.prog g (.int .i64 i :: .int .i64 j :: cap) w' (fun v w'' => v = .int .i64 (cmp i j) ∧ Ext w' w'')) :
    Does Tryz.prog 41 [.slice (some ⟨b, 0, none⟩) n c, .func (.func g) ⟨[]⟩ ⟨cap⟩] w (fun v w' => v = .tuple #[] ∧ Mod (blkIn (some ⟨b, 0, none⟩)) w w' ∧ Own eI w' (some ⟨b, 0, none⟩) n t (sortL r L)) := by
  have hS := lib_stableInt (c := c) hs hr hi h hL hn40 hg
  refine Does.of_vc tabok Tryz.func41 rfl rfl rfl (by kernel_rfl) ?_; conv => whnf
  refine (hS).mono ?_
  rintro _ w43 ⟨rfl, m41, O42⟩
  conv => whnf
  exact ⟨rfl, m41, O42⟩
end Go.Proofs.YtfgbijddjoojbaaGreat
