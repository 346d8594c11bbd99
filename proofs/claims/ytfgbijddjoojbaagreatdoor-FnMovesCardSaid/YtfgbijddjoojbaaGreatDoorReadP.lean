/- Contracts of functions of the given program, of the reference and of the laws: each says what a call returns, for all arguments that meet the premises that the theorem itself names. -/
import Derived.Test.YtfgbijddjoojbaaGreatDoorReadM
import Derived.Test.YtfgbijddjoojbaaGreatDoorTexts
import Derived.Test.YtfgbijddjoojbaaGreatDoorNest
import Derived.Test.YtfgbijddjoojbaaGreatDoorRead
namespace Go.M
open Go Go.Vc
theorem list6 {α : Type} {l : List α} (h : l.length = 6) : ∃ a b c d e f, l = [a, b, c, d, e, f] := by
  match l, h with
  | [a, b, c, d, e, f], _ => exact ⟨a, b, c, d, e, f, rfl⟩
theorem partRd_ok {n c y k : ByteArray} {x : TPart} (h : partRd n c y k = some x) (hn : n.size ≤ 1048576) : x.ok := by
  obtain ⟨_, rfl⟩ := partRd_some h
  exact ⟨by simp only [strok]; omega, numI_ok _, numI_ok _, numI_ok _⟩
theorem decPartI_ok {l : ByteArray} {x : TPart} (hl : l.size ≤ 1048576) (h : decPartI l = some x) : x.ok := by
  unfold decPartI at h
  split at h
  · rename_i hs
    exact partRd_ok h (Nat.le_trans (splitS_le (c := 32) (by rw [hs]; simp)) hl)
  · cases h
theorem decPart_ok {l : ByteArray} {x : TPart} (hl : l.size ≤ 1048576) (h : decPart l = some x) : x.ok := decPartI_ok hl (decPart_some h).1
theorem decPartI_len {l : ByteArray} (h3 : (splitS 32 l).length ≠ 6) : decPartI l = none := by
  unfold decPartI
  split
  · rename_i hs; rw [hs] at h3; simp at h3
  · rfl
theorem decPart_len {l : ByteArray} (h3 : (splitS 32 l).length ≠ 6) : decPart l = none := decPartI_none (decPartI_len h3)
end Go.M
namespace Go.Proofs.YtfgbijddjoojbaaGreatDoor
open Go Go.RowKit Go.Vc Go.M Go.Shelf Go.Proofs
theorem spec_ReadParts {s : ByteArray} (hs : s.size ≤ 1048576) (w : World) :
    Does Tryz.prog 37 [.string s] w (fun v w' => ∃ a n c, v = .tuple #[.slice a n c, .bool (readParts s).isSome] ∧ NewAt w.heap.size a ∧ Own TPart.enc w' a n 81 ((readParts s).getD []) ∧ Ext w w') := by
  obtain ⟨init, last, hl⟩ := split_ends 10 s
  have hz : ∀ l ∈ init ++ [last], l.size ≤ 1048576 := fun l h => Nat.le_trans (splitS_le (c := 10) (by rw [hl]; exact h)) hs
  have hW : ∀ u, Does Tryz.prog 95 [.string s, .int .u8 10] u (fun v w' => ∃ a k, v = .slice a (init.length + 1) k ∧ NewAt u.heap.size a ∧ Own eS w' a (init.length + 1) 9 (init ++ [last]) ∧ Ext u w') := fun u => by
    have := split_at3 hs hl u
    rw [List.length_append] at this
    exact this
  have hR : readParts s = _ := readS_at (dec := decPart) (ok := partsB) hl
  have hin : init.length ≤ 1048576 := by
    have := splitS_len_le 10 s
    rw [hl] at this
    simp at this
    omega
  have qL := get_last init last
  have qI : ∀ {k : Nat} {x : ByteArray}, init[k]? = some x → (init ++ [last])[k]? = some x := fun h => get_init h
  have hlen : (init ++ [last]).length = init.length + 1 := by simp
  generalize init ++ [last] = ls at *
  generalize readParts s = r at *
  by_cases h1 : last = { data := #[] } ∧ init.length ≤ 40
  · rw [if_pos h1] at hR
    obtain ⟨h1a, h1b⟩ := h1
    refine Does.of_vc tabok Tryz.func37 rfl rfl rfl (by kernel_rfl) ?_; conv => whnf
    refine (hW _).mono ?_
    rintro _ w6 ⟨a1, k2, rfl, N3, O4, e5⟩
    conv => whnf
    refine SemK.buildSlice mk_52 (vs := []) (by rfl) (by rfl) (by simp [Value.cells]) (by decide) ?_
    intro b7 w7 g7 l7 e7 B7
    have G7 := Grow.new0 (enc := TPart.enc) TPart.enc_len B7 g7
    conv => whnf
    refine SemK.sub (((init.length : Nat) : Int)) (by omega) (by omega) (by omega) ?_
    conv => whnf
    obtain ⟨b9, rfl⟩ := ((O4.ext e7)).some (by omega)
    have lb9 : b9 < w6.heap.size := O4.lt _ rfl
    refine SemK.indexOwn (sz := 1) (by kernel_rfl) init.length rfl (by omega) ?_
    have hb9 := Own.elem eS_len (O4.ext e7) qL
    conv => whnf
    refine SemK.load0 (by kernel_rfl) hb9 rfl ?_
    conv => whnf
    refine IfB.eqf (by simp [*]; done) ?_
    conv => whnf
    refine IfB.no (by omega) ?_
    conv => whnf
    refine LoopK.rule [4, 5, 6] (fun (k : Nat) vs w' => ∃ a3 n3 c3 out, vs = [.slice (some ⟨b9, 0, none⟩) (init.length + 1 : Nat) k2, .slice a3 n3 c3, .int .i64 k] ∧ k ≤ init.length ∧ Grow TPart.enc 4 w6.heap.size 81 w' a3 n3 c3 out ∧ decs decPart (init.take k) = some out ∧ Ext w6 w') (fun k => init.length - k) tab tabok (by kernel_rfl) 0 ⟨_, _, _, [], rfl, by omega, G7, rfl, e7⟩ ?_
    rintro k g _ w' ⟨a3, n3, c3, out, rfl, hk, G, hJ, hx⟩
    have hn := G.len
    have hol : out.length ≤ k := by
      have := decs_len hJ
      simp at this
      omega
    by_cases hkn : k < init.length
    · obtain ⟨l, hlk⟩ : ∃ l, init[k]? = some l := get_of_lt hkn
      have qk := qI hlk
      have hsl := hz l (List.mem_of_getElem? qk)
      by_cases h6 : (splitS 32 l).length = 6
      · obtain ⟨n0, c0, o0, m0, t0, p0, hls⟩ := list6 h6
        have z1 : c0.size ≤ l.size := splitS_le (c := 32) (by rw [hls]; simp)
        have z2 : m0.size ≤ l.size := splitS_le (c := 32) (by rw [hls]; simp)
        have z3 : p0.size ≤ l.size := splitS_le (c := 32) (by rw [hls]; simp)
        have hq : ∀ u, Does Tryz.prog 95 [.string l, .int .u8 32] u (fun v w' => ∃ a k, v = .slice a 6 k ∧ NewAt u.heap.size a ∧ Own eS w' a 6 9 [n0, c0, o0, m0, t0, p0] ∧ Ext u w') := fun u => split_at3 (c := 32) (by omega) hls u
        have hd : decPart l = if o0 = ofB ∧ t0 = atB then partRd n0 c0 m0 p0 else none := by unfold decPart; simp only [hls]
        unfold partRd ofB atB at hd
        have q0 : [n0, c0, o0, m0, t0, p0][0]? = some n0 := rfl
        have q1 : [n0, c0, o0, m0, t0, p0][1]? = some c0 := rfl
        have q2 : [n0, c0, o0, m0, t0, p0][2]? = some o0 := rfl
        have q3 : [n0, c0, o0, m0, t0, p0][3]? = some m0 := rfl
        have q4 : [n0, c0, o0, m0, t0, p0][4]? = some t0 := rfl
        have q5 : [n0, c0, o0, m0, t0, p0][5]? = some p0 := rfl
        generalize [n0, c0, o0, m0, t0, p0] = ws at *
        by_cases hzo : o0 = { data := #[111, 102] }
        · by_cases hzt : t0 = { data := #[97, 116] }
          · rw [if_pos ⟨hzo, hzt⟩] at hd
            cases hz1 : numB c0
            · rw [if_neg (by simp [hz1])] at hd
              rw [decs_fail hlk hd] at hR
              subst hR
              conv => whnf
              refine SemK.sub (((init.length : Nat) : Int)) (by omega) (by omega) (by omega) ?_
              conv => whnf
              refine IfB.yes (by omega) ?_
              conv => whnf
              refine SemK.indexOwn (sz := 1) (by kernel_rfl) k rfl (by omega) ?_
              have hb11 := Own.elem eS_len (O4.ext hx) qk
              conv => whnf
              refine SemK.load0 (by kernel_rfl) hb11 rfl ?_
              conv => whnf
              refine (hq _).mono ?_
              rintro _ w17 ⟨a12, k13, rfl, N14, O15, e16⟩
              conv => whnf
              obtain ⟨b19, rfl⟩ := (O15).some (by omega)
              have lb19 : b19 < w17.heap.size := O15.lt _ rfl
              refine SemK.indexOwn (sz := 1) (by kernel_rfl) 2 rfl (by omega) ?_
              have hb19 := Own.elem eS_len O15 q2
              conv => whnf
              refine SemK.load0 (by kernel_rfl) hb19 rfl ?_
              conv => whnf
              with_reducible refine IfB.ndec (fun h20 => ?_) (fun h20 => ?_)
              · conv => whnf
                exact ⟨_, _, _, rfl, NewAt.nil, Own.nil, (Ext.trans (Ext.trans e5 hx) e16)⟩
              · conv => whnf
                refine SemK.indexOwn (sz := 1) (by kernel_rfl) 4 rfl (by omega) ?_
                have hb22 := Own.elem eS_len O15 q4
                conv => whnf
                refine SemK.load0 (by kernel_rfl) hb22 rfl ?_
                conv => whnf
                with_reducible refine IfB.ndec (fun h23 => ?_) (fun h23 => ?_)
                · conv => whnf
                  exact ⟨_, _, _, rfl, NewAt.nil, Own.nil, (Ext.trans (Ext.trans e5 hx) e16)⟩
                · conv => whnf
                  refine SemK.indexOwn (sz := 1) (by kernel_rfl) 1 rfl (by omega) ?_
                  have hb25 := Own.elem eS_len O15 q1
                  conv => whnf
                  refine SemK.load0 (by kernel_rfl) hb25 rfl ?_
                  conv => whnf
                  refine (spec_l01Number (by omega) _).mono ?_
                  rintro _ w27 ⟨rfl, e26⟩
                  conv => whnf
                  refine SemK.indexOwn (sz := 1) (by kernel_rfl) 3 rfl (by omega) ?_
                  have hb29 := Own.elem eS_len (O15.ext e26) q3
                  conv => whnf
                  refine SemK.load0 (by kernel_rfl) hb29 rfl ?_
                  conv => whnf
                  refine (spec_l01Number (by omega) _).mono ?_
                  rintro _ w31 ⟨rfl, e30⟩
                  conv => whnf
                  refine SemK.indexOwn (sz := 1) (by kernel_rfl) 5 rfl (by omega) ?_
                  have hb33 := Own.elem eS_len (O15.ext (Ext.trans e26 e30)) q5
                  conv => whnf
                  refine SemK.load0 (by kernel_rfl) hb33 rfl ?_
                  conv => whnf
                  refine (spec_l01Number (by omega) _).mono ?_
                  rintro _ w35 ⟨rfl, e34⟩
                  conv => whnf
                  refine IfB.eqt (by simp [*]; done) ?_
                  conv => whnf
                  exact ⟨_, _, _, rfl, NewAt.nil, Own.nil, (Ext.trans (Ext.trans (Ext.trans (Ext.trans (Ext.trans e5 hx) e16) e26) e30) e34)⟩
            cases hz2 : numB m0
            · rw [if_neg (by simp [hz2])] at hd
              rw [decs_fail hlk hd] at hR
              subst hR
              conv => whnf
              refine SemK.sub (((init.length : Nat) : Int)) (by omega) (by omega) (by omega) ?_
              conv => whnf
              refine IfB.yes (by omega) ?_
              conv => whnf
              refine SemK.indexOwn (sz := 1) (by kernel_rfl) k rfl (by omega) ?_
              have hb11 := Own.elem eS_len (O4.ext hx) qk
              conv => whnf
              refine SemK.load0 (by kernel_rfl) hb11 rfl ?_
              conv => whnf
              refine (hq _).mono ?_
              rintro _ w17 ⟨a12, k13, rfl, N14, O15, e16⟩
              conv => whnf
              obtain ⟨b19, rfl⟩ := (O15).some (by omega)
              have lb19 : b19 < w17.heap.size := O15.lt _ rfl
              refine SemK.indexOwn (sz := 1) (by kernel_rfl) 2 rfl (by omega) ?_
              have hb19 := Own.elem eS_len O15 q2
              conv => whnf
              refine SemK.load0 (by kernel_rfl) hb19 rfl ?_
              conv => whnf
              with_reducible refine IfB.ndec (fun h20 => ?_) (fun h20 => ?_)
              · conv => whnf
                exact ⟨_, _, _, rfl, NewAt.nil, Own.nil, (Ext.trans (Ext.trans e5 hx) e16)⟩
              · conv => whnf
                refine SemK.indexOwn (sz := 1) (by kernel_rfl) 4 rfl (by omega) ?_
                have hb22 := Own.elem eS_len O15 q4
                conv => whnf
                refine SemK.load0 (by kernel_rfl) hb22 rfl ?_
                conv => whnf
                with_reducible refine IfB.ndec (fun h23 => ?_) (fun h23 => ?_)
                · conv => whnf
                  exact ⟨_, _, _, rfl, NewAt.nil, Own.nil, (Ext.trans (Ext.trans e5 hx) e16)⟩
                · conv => whnf
                  refine SemK.indexOwn (sz := 1) (by kernel_rfl) 1 rfl (by omega) ?_
                  have hb25 := Own.elem eS_len O15 q1
                  conv => whnf
                  refine SemK.load0 (by kernel_rfl) hb25 rfl ?_
                  conv => whnf
                  refine (spec_l01Number (by omega) _).mono ?_
                  rintro _ w27 ⟨rfl, e26⟩
                  conv => whnf
                  refine SemK.indexOwn (sz := 1) (by kernel_rfl) 3 rfl (by omega) ?_
                  have hb29 := Own.elem eS_len (O15.ext e26) q3
                  conv => whnf
                  refine SemK.load0 (by kernel_rfl) hb29 rfl ?_
                  conv => whnf
                  refine (spec_l01Number (by omega) _).mono ?_
                  rintro _ w31 ⟨rfl, e30⟩
                  conv => whnf
                  refine SemK.indexOwn (sz := 1) (by kernel_rfl) 5 rfl (by omega) ?_
                  have hb33 := Own.elem eS_len (O15.ext (Ext.trans e26 e30)) q5
                  conv => whnf
                  refine SemK.load0 (by kernel_rfl) hb33 rfl ?_
                  conv => whnf
                  refine (spec_l01Number (by omega) _).mono ?_
                  rintro _ w35 ⟨rfl, e34⟩
                  conv => whnf
                  refine IfB.eqf (by simp [*]; done) ?_
                  conv => whnf
                  refine IfB.eqt (by simp [*]; done) ?_
                  conv => whnf
                  exact ⟨_, _, _, rfl, NewAt.nil, Own.nil, (Ext.trans (Ext.trans (Ext.trans (Ext.trans (Ext.trans e5 hx) e16) e26) e30) e34)⟩
            cases hz3 : numB p0
            · rw [if_neg (by simp [hz3])] at hd
              rw [decs_fail hlk hd] at hR
              subst hR
              conv => whnf
              refine SemK.sub (((init.length : Nat) : Int)) (by omega) (by omega) (by omega) ?_
              conv => whnf
              refine IfB.yes (by omega) ?_
              conv => whnf
              refine SemK.indexOwn (sz := 1) (by kernel_rfl) k rfl (by omega) ?_
              have hb11 := Own.elem eS_len (O4.ext hx) qk
              conv => whnf
              refine SemK.load0 (by kernel_rfl) hb11 rfl ?_
              conv => whnf
              refine (hq _).mono ?_
              rintro _ w17 ⟨a12, k13, rfl, N14, O15, e16⟩
              conv => whnf
              obtain ⟨b19, rfl⟩ := (O15).some (by omega)
              have lb19 : b19 < w17.heap.size := O15.lt _ rfl
              refine SemK.indexOwn (sz := 1) (by kernel_rfl) 2 rfl (by omega) ?_
              have hb19 := Own.elem eS_len O15 q2
              conv => whnf
              refine SemK.load0 (by kernel_rfl) hb19 rfl ?_
              conv => whnf
              with_reducible refine IfB.ndec (fun h20 => ?_) (fun h20 => ?_)
              · conv => whnf
                exact ⟨_, _, _, rfl, NewAt.nil, Own.nil, (Ext.trans (Ext.trans e5 hx) e16)⟩
              · conv => whnf
                refine SemK.indexOwn (sz := 1) (by kernel_rfl) 4 rfl (by omega) ?_
                have hb22 := Own.elem eS_len O15 q4
                conv => whnf
                refine SemK.load0 (by kernel_rfl) hb22 rfl ?_
                conv => whnf
                with_reducible refine IfB.ndec (fun h23 => ?_) (fun h23 => ?_)
                · conv => whnf
                  exact ⟨_, _, _, rfl, NewAt.nil, Own.nil, (Ext.trans (Ext.trans e5 hx) e16)⟩
                · conv => whnf
                  refine SemK.indexOwn (sz := 1) (by kernel_rfl) 1 rfl (by omega) ?_
                  have hb25 := Own.elem eS_len O15 q1
                  conv => whnf
                  refine SemK.load0 (by kernel_rfl) hb25 rfl ?_
                  conv => whnf
                  refine (spec_l01Number (by omega) _).mono ?_
                  rintro _ w27 ⟨rfl, e26⟩
                  conv => whnf
                  refine SemK.indexOwn (sz := 1) (by kernel_rfl) 3 rfl (by omega) ?_
                  have hb29 := Own.elem eS_len (O15.ext e26) q3
                  conv => whnf
                  refine SemK.load0 (by kernel_rfl) hb29 rfl ?_
                  conv => whnf
                  refine (spec_l01Number (by omega) _).mono ?_
                  rintro _ w31 ⟨rfl, e30⟩
                  conv => whnf
                  refine SemK.indexOwn (sz := 1) (by kernel_rfl) 5 rfl (by omega) ?_
                  have hb33 := Own.elem eS_len (O15.ext (Ext.trans e26 e30)) q5
                  conv => whnf
                  refine SemK.load0 (by kernel_rfl) hb33 rfl ?_
                  conv => whnf
                  refine (spec_l01Number (by omega) _).mono ?_
                  rintro _ w35 ⟨rfl, e34⟩
                  conv => whnf
                  refine IfB.eqf (by simp [*]; done) ?_
                  conv => whnf
                  refine IfB.eqf (by simp [*]; done) ?_
                  conv => whnf
                  refine IfB.eqt (by simp [*]; done) ?_
                  conv => whnf
                  exact ⟨_, _, _, rfl, NewAt.nil, Own.nil, (Ext.trans (Ext.trans (Ext.trans (Ext.trans (Ext.trans e5 hx) e16) e26) e30) e34)⟩
            rw [if_pos (by simp [hz1, hz2, hz3])] at hd
            have hJ2 := decs_step hJ hlk hd
            conv => whnf
            refine SemK.sub (((init.length : Nat) : Int)) (by omega) (by omega) (by omega) ?_
            conv => whnf
            refine IfB.yes (by omega) ?_
            conv => whnf
            refine SemK.indexOwn (sz := 1) (by kernel_rfl) k rfl (by omega) ?_
            have hb11 := Own.elem eS_len (O4.ext hx) qk
            conv => whnf
            refine SemK.load0 (by kernel_rfl) hb11 rfl ?_
            conv => whnf
            refine (hq _).mono ?_
            rintro _ w17 ⟨a12, k13, rfl, N14, O15, e16⟩
            conv => whnf
            obtain ⟨b19, rfl⟩ := (O15).some (by omega)
            have lb19 : b19 < w17.heap.size := O15.lt _ rfl
            refine SemK.indexOwn (sz := 1) (by kernel_rfl) 2 rfl (by omega) ?_
            have hb19 := Own.elem eS_len O15 q2
            conv => whnf
            refine SemK.load0 (by kernel_rfl) hb19 rfl ?_
            conv => whnf
            refine IfB.eqf (by simp [*]; done) ?_
            conv => whnf
            refine SemK.indexOwn (sz := 1) (by kernel_rfl) 4 rfl (by omega) ?_
            have hb21 := Own.elem eS_len O15 q4
            conv => whnf
            refine SemK.load0 (by kernel_rfl) hb21 rfl ?_
            conv => whnf
            refine IfB.eqf (by simp [*]; done) ?_
            conv => whnf
            refine SemK.indexOwn (sz := 1) (by kernel_rfl) 1 rfl (by omega) ?_
            have hb23 := Own.elem eS_len O15 q1
            conv => whnf
            refine SemK.load0 (by kernel_rfl) hb23 rfl ?_
            conv => whnf
            refine (spec_l01Number (by omega) _).mono ?_
            rintro _ w25 ⟨rfl, e24⟩
            conv => whnf
            refine SemK.indexOwn (sz := 1) (by kernel_rfl) 3 rfl (by omega) ?_
            have hb27 := Own.elem eS_len (O15.ext e24) q3
            conv => whnf
            refine SemK.load0 (by kernel_rfl) hb27 rfl ?_
            conv => whnf
            refine (spec_l01Number (by omega) _).mono ?_
            rintro _ w29 ⟨rfl, e28⟩
            conv => whnf
            refine SemK.indexOwn (sz := 1) (by kernel_rfl) 5 rfl (by omega) ?_
            have hb31 := Own.elem eS_len (O15.ext (Ext.trans e24 e28)) q5
            conv => whnf
            refine SemK.load0 (by kernel_rfl) hb31 rfl ?_
            conv => whnf
            refine (spec_l01Number (by omega) _).mono ?_
            rintro _ w33 ⟨rfl, e32⟩
            conv => whnf
            refine IfB.eqf (by simp [*]; done) ?_
            conv => whnf
            refine IfB.eqf (by simp [*]; done) ?_
            conv => whnf
            refine IfB.eqf (by simp [*]; done) ?_
            conv => whnf
            refine SemK.indexOwn (sz := 1) (by kernel_rfl) 0 rfl (by omega) ?_
            have hb35 := Own.elem eS_len (O15.ext (Ext.trans (Ext.trans e24 e28) e32)) q0
            conv => whnf
            refine SemK.load1 (by kernel_rfl) hb35 (k := 0) rfl ?_
            conv => whnf
            refine SemK.build st_81 rfl ?_
            conv => whnf
            refine SemK.buildSlice mk_52 (vs := [Value.agg #[Value.string n0, Value.int IntKind.i64 (numI c0), Value.int IntKind.i64 (numI m0), Value.int IntKind.i64 (numI p0)]]) (by rfl) (by rfl) (by simp [Value.cells]) (by decide) ?_
            intro b36 w36 g36 l36 e36 B36
            have G36 := Grow.of_blk (n := 1) (enc := TPart.enc) (xs := [⟨n0, numI c0, numI m0, numI p0⟩]) TPart.enc_len B36 g36 rfl (by decide)
            conv => whnf
            refine SemK.appendArr0 (enc := TPart.enc) mk_52 TPart.enc_len (G.ext (Ext.trans (Ext.trans (Ext.trans (Ext.trans e16 e24) e28) e32) e36)) (G36.own.arr TPart.enc_len) (by intro y _; simp [TPart.enc, cellish]) (by omega) (by omega) (Below.size (Ext.trans (Ext.trans (Ext.trans (Ext.trans (Ext.trans hx e16) e24) e28) e32) e36)) ?_
            intro a37 c37 w37 G37 m37 i37
            conv => whnf
            refine SemK.add (((k + 1 : Nat) : Int)) (by omega) (by omega) (by omega) ?_
            conv => whnf
            -- VALUES  Value.slice (some { block := b9, off := 0 }) (init.length + 1) k2; Value.slice a37 (n3 + 1) c37; Value.int IntKind.i64 ↑(k + 1);
            exact ⟨k + 1, by omega, _, _, _, _, rfl, by omega, G37, hJ2, Ext.mod_trans (Ext.trans (Ext.trans (Ext.trans (Ext.trans (Ext.trans hx e16) e24) e28) e32) e36) m37 (blkIn_new G.new)⟩
          · rw [if_neg (fun h => hzt h.2)] at hd
            rw [decs_fail hlk hd] at hR
            subst hR
            conv => whnf
            refine SemK.sub (((init.length : Nat) : Int)) (by omega) (by omega) (by omega) ?_
            conv => whnf
            refine IfB.yes (by omega) ?_
            conv => whnf
            refine SemK.indexOwn (sz := 1) (by kernel_rfl) k rfl (by omega) ?_
            have hb11 := Own.elem eS_len (O4.ext hx) qk
            conv => whnf
            refine SemK.load0 (by kernel_rfl) hb11 rfl ?_
            conv => whnf
            refine (hq _).mono ?_
            rintro _ w17 ⟨a12, k13, rfl, N14, O15, e16⟩
            conv => whnf
            obtain ⟨b19, rfl⟩ := (O15).some (by omega)
            have lb19 : b19 < w17.heap.size := O15.lt _ rfl
            refine SemK.indexOwn (sz := 1) (by kernel_rfl) 2 rfl (by omega) ?_
            have hb19 := Own.elem eS_len O15 q2
            conv => whnf
            refine SemK.load0 (by kernel_rfl) hb19 rfl ?_
            conv => whnf
            refine IfB.eqf (by simp [*]; done) ?_
            conv => whnf
            refine SemK.indexOwn (sz := 1) (by kernel_rfl) 4 rfl (by omega) ?_
            have hb21 := Own.elem eS_len O15 q4
            conv => whnf
            refine SemK.load0 (by kernel_rfl) hb21 rfl ?_
            conv => whnf
            refine IfB.eqt (by simp [*]; done) ?_
            conv => whnf
            exact ⟨_, _, _, rfl, NewAt.nil, Own.nil, (Ext.trans (Ext.trans e5 hx) e16)⟩
        · rw [if_neg (fun h => hzo h.1)] at hd
          rw [decs_fail hlk hd] at hR
          subst hR
          conv => whnf
          refine SemK.sub (((init.length : Nat) : Int)) (by omega) (by omega) (by omega) ?_
          conv => whnf
          refine IfB.yes (by omega) ?_
          conv => whnf
          refine SemK.indexOwn (sz := 1) (by kernel_rfl) k rfl (by omega) ?_
          have hb11 := Own.elem eS_len (O4.ext hx) qk
          conv => whnf
          refine SemK.load0 (by kernel_rfl) hb11 rfl ?_
          conv => whnf
          refine (hq _).mono ?_
          rintro _ w17 ⟨a12, k13, rfl, N14, O15, e16⟩
          conv => whnf
          obtain ⟨b19, rfl⟩ := (O15).some (by omega)
          have lb19 : b19 < w17.heap.size := O15.lt _ rfl
          refine SemK.indexOwn (sz := 1) (by kernel_rfl) 2 rfl (by omega) ?_
          have hb19 := Own.elem eS_len O15 q2
          conv => whnf
          refine SemK.load0 (by kernel_rfl) hb19 rfl ?_
          conv => whnf
          refine IfB.eqt (by simp [*]; done) ?_
          conv => whnf
          exact ⟨_, _, _, rfl, NewAt.nil, Own.nil, (Ext.trans (Ext.trans e5 hx) e16)⟩
      · rw [decs_fail hlk (decPart_len h6)] at hR
        subst hR
        have hq := fun u => split_at3 (s := l) (c := 32) (by omega) rfl u
        generalize splitS 32 l = ws at *
        have h6' : ¬ ((ws.length : Nat) : Int) = 6 := by omega
        conv => whnf
        refine SemK.sub (((init.length : Nat) : Int)) (by omega) (by omega) (by omega) ?_
        conv => whnf
        refine IfB.yes (by omega) ?_
        conv => whnf
        refine SemK.indexOwn (sz := 1) (by kernel_rfl) k rfl (by omega) ?_
        have hb11 := Own.elem eS_len (O4.ext hx) qk
        conv => whnf
        refine SemK.load0 (by kernel_rfl) hb11 rfl ?_
        conv => whnf
        refine (hq _).mono ?_
        rintro _ w17 ⟨a12, k13, rfl, N14, O15, e16⟩
        conv => whnf
        refine IfB.eqt (by simp [*]; done) ?_
        conv => whnf
        exact ⟨_, _, _, rfl, NewAt.nil, Own.nil, (Ext.trans (Ext.trans e5 hx) e16)⟩
    · have hke : k = init.length := by omega
      subst hke
      rw [List.take_of_length_le (by omega)] at hJ
      rw [hJ] at hR
      dsimp only at hR
      have hok : ∀ x ∈ out, x.ok := decs_all (fun l hl x hx => decPart_ok (hz l (by
        obtain ⟨i, hi⟩ := List.mem_iff_getElem?.1 hl
        exact List.mem_of_getElem? (qI hi))) hx) hJ
      cases hv : partsB out
      · rw [hv, if_neg (by simp)] at hR
        subst hR
        conv => whnf
        refine SemK.sub (((init.length : Nat) : Int)) (by omega) (by omega) (by omega) ?_
        conv => whnf
        refine IfB.no (by omega) ?_
        conv => whnf
        refine (spec_l25Ok (G.own.arr TPart.enc_len) hok).mono ?_
        rintro _ w11 ⟨rfl, e10⟩
        conv => whnf
        refine IfB.eqt (by simp [*]; done) ?_
        conv => whnf
        exact ⟨_, _, _, rfl, NewAt.nil, Own.nil, (Ext.trans (Ext.trans e5 hx) e10)⟩
      · rw [hv, if_pos rfl] at hR
        subst hR
        conv => whnf
        refine SemK.sub (((init.length : Nat) : Int)) (by omega) (by omega) (by omega) ?_
        conv => whnf
        refine IfB.no (by omega) ?_
        conv => whnf
        refine (spec_l25Ok (G.own.arr TPart.enc_len) hok).mono ?_
        rintro _ w11 ⟨rfl, e10⟩
        conv => whnf
        refine IfB.eqf (by simp [*]; done) ?_
        conv => whnf
        exact ⟨_, _, _, rfl, (G.new.mono (Below.size e5)), (G.ext e10).own, (Ext.trans (Ext.trans e5 hx) e10)⟩
  · rw [if_neg h1] at hR
    subst hR
    by_cases h1a : last = { data := #[] }
    · have h1b : 40 < init.length := by
        apply Classical.byContradiction
        intro hh
        exact h1 ⟨h1a, by omega⟩
      refine Does.of_vc tabok Tryz.func37 rfl rfl rfl (by kernel_rfl) ?_; conv => whnf
      refine (hW _).mono ?_
      rintro _ w7 ⟨a2, k3, rfl, N4, O5, e6⟩
      conv => whnf
      refine SemK.buildSlice mk_52 (vs := []) (by rfl) (by rfl) (by simp [Value.cells]) (by decide) ?_
      intro b8 w8 g8 l8 e8 B8
      have G8 := Grow.new0 (enc := TPart.enc) TPart.enc_len B8 g8
      conv => whnf
      refine SemK.sub (((init.length : Nat) : Int)) (by omega) (by omega) (by omega) ?_
      conv => whnf
      obtain ⟨b10, rfl⟩ := ((O5.ext e8)).some (by omega)
      have lb10 : b10 < w7.heap.size := O5.lt _ rfl
      refine SemK.indexOwn (sz := 1) (by kernel_rfl) init.length rfl (by omega) ?_
      have hb10 := Own.elem eS_len (O5.ext e8) qL
      conv => whnf
      refine SemK.load0 (by kernel_rfl) hb10 rfl ?_
      conv => whnf
      refine IfB.eqf (by simp [*]; done) ?_
      conv => whnf
      refine IfB.yes (by omega) ?_
      conv => whnf
      exact ⟨_, _, _, rfl, NewAt.nil, Own.nil, (Ext.trans e6 e8)⟩
    · refine Does.of_vc tabok Tryz.func37 rfl rfl rfl (by kernel_rfl) ?_; conv => whnf
      refine (hW _).mono ?_
      rintro _ w7 ⟨a2, k3, rfl, N4, O5, e6⟩
      conv => whnf
      refine SemK.buildSlice mk_52 (vs := []) (by rfl) (by rfl) (by simp [Value.cells]) (by decide) ?_
      intro b8 w8 g8 l8 e8 B8
      have G8 := Grow.new0 (enc := TPart.enc) TPart.enc_len B8 g8
      conv => whnf
      refine SemK.sub (((init.length : Nat) : Int)) (by omega) (by omega) (by omega) ?_
      conv => whnf
      obtain ⟨b10, rfl⟩ := ((O5.ext e8)).some (by omega)
      have lb10 : b10 < w7.heap.size := O5.lt _ rfl
      refine SemK.indexOwn (sz := 1) (by kernel_rfl) init.length rfl (by omega) ?_
      have hb10 := Own.elem eS_len (O5.ext e8) qL
      conv => whnf
      refine SemK.load0 (by kernel_rfl) hb10 rfl ?_
      conv => whnf
      refine IfB.eqt (by simp [*]; done) ?_
      conv => whnf
      exact ⟨_, _, _, rfl, NewAt.nil, Own.nil, (Ext.trans e6 e8)⟩
theorem impl_ReadParts {s : ByteArray} (hs : s.size ≤ 1048576) {w : World} (hT : Pow w) (hE : Errs w) (hM : MaxL w) :
    Does Tryz.prog 35 [.string s] w (fun v w' => ∃ a n c, v = .tuple #[.slice a n c, .bool (readParts s).isSome] ∧ NewAt w.heap.size a ∧ Own TPart.enc w' a n 81 ((readParts s).getD []) ∧ Ext w w') := by
  rw [← readParts_eq s]
  obtain ⟨init, last, hl⟩ := split_ends 10 s
  have hz : ∀ l ∈ init ++ [last], l.size ≤ 1048576 := fun l h => Nat.le_trans (splitS_le (c := 10) (by rw [hl]; exact h)) hs
  have hSp : ∀ u, MaxL u → Does Tryz.prog 89 [.string s, .string ⟨#[10]⟩] u (fun v u' => ∃ b, v = .slice (some ⟨b, 0, none⟩) (init.length + 1) (init.length + 1) ∧ u.heap.size ≤ b ∧ Arr eS 1 u' (some ⟨b, 0, none⟩) (init.length + 1) (init ++ [last]) ∧ Ext u u') := fun u hu => by
    have := split_arr (c := 10) hs hl u hu
    rw [List.length_append] at this
    exact this
  have hR : readI decPartI partsB partsText s = _ := readI_at (dec := decPartI) (ok := partsB) (text := partsText) hl
  have hin : init.length ≤ 1048576 := by
    have := splitS_len_le 10 s
    rw [hl] at this
    simp at this
    omega
  have hti : (init ++ [last]).take init.length = init := by simp
  have hlen : (init ++ [last]).length = init.length + 1 := by simp
  have hzi : ∀ l ∈ init, l.size ≤ 1048576 := fun l h => hz l (by simp [h])
  generalize init ++ [last] = ls at *
  generalize readI decPartI partsB partsText s = r at *
  by_cases h1b : init.length ≤ 40
  · rw [if_pos h1b] at hR
    refine Does.of_vc tabok Tryz.func35 rfl rfl rfl (by kernel_rfl) ?_; conv => whnf
    refine SemK.buildSlice mk_52 (vs := []) (by rfl) (by rfl) (by simp [Value.cells]) (by decide) ?_
    intro b1 w1 g1 l1 e1 B1
    have G1 := Grow.new0 (enc := TPart.enc) TPart.enc_len B1 g1
    conv => whnf
    refine (hSp _ (hM.ext e1)).mono ?_
    rintro _ w6 ⟨b2, rfl, q3, A4, e5⟩
    conv => whnf
    refine IfB.no (by omega) ?_
    conv => whnf
    refine SemK.sub (((init.length : Nat) : Int)) (by omega) (by omega) (by omega) ?_
    conv => whnf
    refine SemK.sliceTo (k' := .i64) (by kernel_rfl) A4 init.length (by omega) (by omega) (.inr rfl) ?_
    rw [hti]
    intro A7
    conv => whnf
    have hap : Apart (some ⟨b1, 0, none⟩) (some ⟨b2, 0, none⟩) := Apart.of (by omega)
    have hb2 : b2 < w6.heap.size := (A4.lt (fun _ => by simp [eS]) (by omega)) _ rfl
    refine LoopK.rule [0, 4, 25, 26, 27] (fun (k : Nat) vs w' => ∃ a3 n3 c3 out, vs = [.string s, .slice a3 n3 c3, .slice (some ⟨b2, 0, none⟩) init.length (init.length + 1), .int .i64 init.length, .int .i64 k] ∧ k ≤ init.length ∧ Grow TPart.enc 4 w.heap.size 81 w' a3 n3 c3 out ∧ decs decPartI (init.take k) = some out ∧ Ext w w' ∧ Arr eS 1 w' (some ⟨b2, 0, none⟩) init.length init ∧ Apart a3 (some ⟨b2, 0, none⟩) ∧ b2 < w'.heap.size) (fun k => init.length - k) tab tabok (by kernel_rfl) 0 ⟨_, _, _, [], rfl, by omega, G1.ext e5, rfl, Ext.trans e1 e5, A7, hap, hb2⟩ ?_
    rintro k g _ w' ⟨a3, n3, c3, out, rfl, hk, G, hJ, hx, A, ap, hbl⟩
    have hn := G.len
    have hnc := G.le.1
    have hol : out.length ≤ k := by
      have := decs_len hJ
      simp at this
      omega
    by_cases hkn : k < init.length
    · obtain ⟨l, hlk⟩ : ∃ l, init[k]? = some l := get_of_lt hkn
      have hsl := hzi l (List.mem_of_getElem? hlk)
      by_cases h6 : (splitS 32 l).length = 6
      · obtain ⟨n0, c0, o0, m0, t0, p0, hls⟩ := list6 h6
        have z1 : c0.size ≤ l.size := splitS_le (c := 32) (by rw [hls]; simp)
        have z2 : m0.size ≤ l.size := splitS_le (c := 32) (by rw [hls]; simp)
        have z3 : p0.size ≤ l.size := splitS_le (c := 32) (by rw [hls]; simp)
        have hq3 : ∀ u, MaxL u → Does Tryz.prog 89 [.string l, .string ⟨#[32]⟩] u (fun v u' => ∃ b, v = .slice (some ⟨b, 0, none⟩) 6 6 ∧ u.heap.size ≤ b ∧ Arr eS 1 u' (some ⟨b, 0, none⟩) 6 [n0, c0, o0, m0, t0, p0] ∧ Ext u u') := split_arr (c := 32) (by omega) hls
        have hd : decPartI l = partRd n0 c0 m0 p0 := by unfold decPartI; simp only [hls]
        unfold partRd at hd
        have q0 : [n0, c0, o0, m0, t0, p0][0]? = some n0 := rfl
        have q1 : [n0, c0, o0, m0, t0, p0][1]? = some c0 := rfl
        have q3 : [n0, c0, o0, m0, t0, p0][3]? = some m0 := rfl
        have q5 : [n0, c0, o0, m0, t0, p0][5]? = some p0 := rfl
        generalize [n0, c0, o0, m0, t0, p0] = ws at *
        cases hz1 : numB c0
        · rw [if_neg (by simp [hz1])] at hd
          rw [decs_fail hlk hd] at hR
          subst hR
          conv => whnf
          refine IfB.yes (by omega) ?_
          conv => whnf
          refine SemK.index (by kernel_rfl) A k rfl hlk ?_
          intro b9 o9 _ hb9
          conv => whnf
          refine SemK.load0 (by kernel_rfl) hb9 rfl ?_
          conv => whnf
          refine (hq3 _ (hM.ext hx)).mono ?_
          rintro _ w14 ⟨b10, rfl, q11, A12, e13⟩
          conv => whnf
          refine SemK.index (by kernel_rfl) A12 1 rfl q1 ?_
          intro b16 o16 _ hb16
          conv => whnf
          refine SemK.load0 (by kernel_rfl) hb16 rfl ?_
          conv => whnf
          refine (impl_ReadDecimal (by omega) (hT.ext (Ext.trans hx e13)) (hE.ext (Ext.trans hx e13))).mono ?_
          rintro _ w18 ⟨rfl, e17⟩
          conv => whnf
          refine SemK.index (by kernel_rfl) (A12.ext e17) 3 rfl q3 ?_
          intro b20 o20 _ hb20
          conv => whnf
          refine SemK.load0 (by kernel_rfl) hb20 rfl ?_
          conv => whnf
          refine (impl_ReadDecimal (by omega) (hT.ext (Ext.trans (Ext.trans hx e13) e17)) (hE.ext (Ext.trans (Ext.trans hx e13) e17))).mono ?_
          rintro _ w22 ⟨rfl, e21⟩
          conv => whnf
          refine SemK.index (by kernel_rfl) (A12.ext (Ext.trans e17 e21)) 5 rfl q5 ?_
          intro b24 o24 _ hb24
          conv => whnf
          refine SemK.load0 (by kernel_rfl) hb24 rfl ?_
          conv => whnf
          refine (impl_ReadDecimal (by omega) (hT.ext (Ext.trans (Ext.trans (Ext.trans hx e13) e17) e21)) (hE.ext (Ext.trans (Ext.trans (Ext.trans hx e13) e17) e21))).mono ?_
          rintro _ w26 ⟨rfl, e25⟩
          conv => whnf
          refine IfB.eqt (by simp [*]; done) ?_
          conv => whnf
          exact ⟨_, _, _, rfl, NewAt.nil, Own.nil, (Ext.trans (Ext.trans (Ext.trans (Ext.trans hx e13) e17) e21) e25)⟩
        cases hz2 : numB m0
        · rw [if_neg (by simp [hz2])] at hd
          rw [decs_fail hlk hd] at hR
          subst hR
          conv => whnf
          refine IfB.yes (by omega) ?_
          conv => whnf
          refine SemK.index (by kernel_rfl) A k rfl hlk ?_
          intro b9 o9 _ hb9
          conv => whnf
          refine SemK.load0 (by kernel_rfl) hb9 rfl ?_
          conv => whnf
          refine (hq3 _ (hM.ext hx)).mono ?_
          rintro _ w14 ⟨b10, rfl, q11, A12, e13⟩
          conv => whnf
          refine SemK.index (by kernel_rfl) A12 1 rfl q1 ?_
          intro b16 o16 _ hb16
          conv => whnf
          refine SemK.load0 (by kernel_rfl) hb16 rfl ?_
          conv => whnf
          refine (impl_ReadDecimal (by omega) (hT.ext (Ext.trans hx e13)) (hE.ext (Ext.trans hx e13))).mono ?_
          rintro _ w18 ⟨rfl, e17⟩
          conv => whnf
          refine SemK.index (by kernel_rfl) (A12.ext e17) 3 rfl q3 ?_
          intro b20 o20 _ hb20
          conv => whnf
          refine SemK.load0 (by kernel_rfl) hb20 rfl ?_
          conv => whnf
          refine (impl_ReadDecimal (by omega) (hT.ext (Ext.trans (Ext.trans hx e13) e17)) (hE.ext (Ext.trans (Ext.trans hx e13) e17))).mono ?_
          rintro _ w22 ⟨rfl, e21⟩
          conv => whnf
          refine SemK.index (by kernel_rfl) (A12.ext (Ext.trans e17 e21)) 5 rfl q5 ?_
          intro b24 o24 _ hb24
          conv => whnf
          refine SemK.load0 (by kernel_rfl) hb24 rfl ?_
          conv => whnf
          refine (impl_ReadDecimal (by omega) (hT.ext (Ext.trans (Ext.trans (Ext.trans hx e13) e17) e21)) (hE.ext (Ext.trans (Ext.trans (Ext.trans hx e13) e17) e21))).mono ?_
          rintro _ w26 ⟨rfl, e25⟩
          conv => whnf
          refine IfB.eqf (by simp [*]; done) ?_
          conv => whnf
          refine IfB.eqt (by simp [*]; done) ?_
          conv => whnf
          exact ⟨_, _, _, rfl, NewAt.nil, Own.nil, (Ext.trans (Ext.trans (Ext.trans (Ext.trans hx e13) e17) e21) e25)⟩
        cases hz3 : numB p0
        · rw [if_neg (by simp [hz3])] at hd
          rw [decs_fail hlk hd] at hR
          subst hR
          conv => whnf
          refine IfB.yes (by omega) ?_
          conv => whnf
          refine SemK.index (by kernel_rfl) A k rfl hlk ?_
          intro b9 o9 _ hb9
          conv => whnf
          refine SemK.load0 (by kernel_rfl) hb9 rfl ?_
          conv => whnf
          refine (hq3 _ (hM.ext hx)).mono ?_
          rintro _ w14 ⟨b10, rfl, q11, A12, e13⟩
          conv => whnf
          refine SemK.index (by kernel_rfl) A12 1 rfl q1 ?_
          intro b16 o16 _ hb16
          conv => whnf
          refine SemK.load0 (by kernel_rfl) hb16 rfl ?_
          conv => whnf
          refine (impl_ReadDecimal (by omega) (hT.ext (Ext.trans hx e13)) (hE.ext (Ext.trans hx e13))).mono ?_
          rintro _ w18 ⟨rfl, e17⟩
          conv => whnf
          refine SemK.index (by kernel_rfl) (A12.ext e17) 3 rfl q3 ?_
          intro b20 o20 _ hb20
          conv => whnf
          refine SemK.load0 (by kernel_rfl) hb20 rfl ?_
          conv => whnf
          refine (impl_ReadDecimal (by omega) (hT.ext (Ext.trans (Ext.trans hx e13) e17)) (hE.ext (Ext.trans (Ext.trans hx e13) e17))).mono ?_
          rintro _ w22 ⟨rfl, e21⟩
          conv => whnf
          refine SemK.index (by kernel_rfl) (A12.ext (Ext.trans e17 e21)) 5 rfl q5 ?_
          intro b24 o24 _ hb24
          conv => whnf
          refine SemK.load0 (by kernel_rfl) hb24 rfl ?_
          conv => whnf
          refine (impl_ReadDecimal (by omega) (hT.ext (Ext.trans (Ext.trans (Ext.trans hx e13) e17) e21)) (hE.ext (Ext.trans (Ext.trans (Ext.trans hx e13) e17) e21))).mono ?_
          rintro _ w26 ⟨rfl, e25⟩
          conv => whnf
          refine IfB.eqf (by simp [*]; done) ?_
          conv => whnf
          refine IfB.eqf (by simp [*]; done) ?_
          conv => whnf
          refine IfB.eqt (by simp [*]; done) ?_
          conv => whnf
          exact ⟨_, _, _, rfl, NewAt.nil, Own.nil, (Ext.trans (Ext.trans (Ext.trans (Ext.trans hx e13) e17) e21) e25)⟩
        rw [if_pos (by simp [hz1, hz2, hz3])] at hd
        have hJ2 := decs_step hJ hlk hd
        conv => whnf
        refine IfB.yes (by omega) ?_
        conv => whnf
        refine SemK.index (by kernel_rfl) A k rfl hlk ?_
        intro b9 o9 _ hb9
        conv => whnf
        refine SemK.load0 (by kernel_rfl) hb9 rfl ?_
        conv => whnf
        refine (hq3 _ (hM.ext hx)).mono ?_
        rintro _ w14 ⟨b10, rfl, q11, A12, e13⟩
        conv => whnf
        refine SemK.index (by kernel_rfl) A12 1 rfl q1 ?_
        intro b16 o16 _ hb16
        conv => whnf
        refine SemK.load0 (by kernel_rfl) hb16 rfl ?_
        conv => whnf
        refine (impl_ReadDecimal (by omega) (hT.ext (Ext.trans hx e13)) (hE.ext (Ext.trans hx e13))).mono ?_
        rintro _ w18 ⟨rfl, e17⟩
        conv => whnf
        refine SemK.index (by kernel_rfl) (A12.ext e17) 3 rfl q3 ?_
        intro b20 o20 _ hb20
        conv => whnf
        refine SemK.load0 (by kernel_rfl) hb20 rfl ?_
        conv => whnf
        refine (impl_ReadDecimal (by omega) (hT.ext (Ext.trans (Ext.trans hx e13) e17)) (hE.ext (Ext.trans (Ext.trans hx e13) e17))).mono ?_
        rintro _ w22 ⟨rfl, e21⟩
        conv => whnf
        refine SemK.index (by kernel_rfl) (A12.ext (Ext.trans e17 e21)) 5 rfl q5 ?_
        intro b24 o24 _ hb24
        conv => whnf
        refine SemK.load0 (by kernel_rfl) hb24 rfl ?_
        conv => whnf
        refine (impl_ReadDecimal (by omega) (hT.ext (Ext.trans (Ext.trans (Ext.trans hx e13) e17) e21)) (hE.ext (Ext.trans (Ext.trans (Ext.trans hx e13) e17) e21))).mono ?_
        rintro _ w26 ⟨rfl, e25⟩
        conv => whnf
        refine IfB.eqf (by simp [*]; done) ?_
        conv => whnf
        refine IfB.eqf (by simp [*]; done) ?_
        conv => whnf
        refine IfB.eqf (by simp [*]; done) ?_
        conv => whnf
        refine SemK.index (by kernel_rfl) (A12.ext (Ext.trans (Ext.trans e17 e21) e25)) 0 rfl q0 ?_
        intro b28 o28 _ hb28
        conv => whnf
        refine SemK.load1 (by kernel_rfl) hb28 (k := 0) rfl ?_
        conv => whnf
        refine SemK.build st_81 rfl ?_
        conv => whnf
        refine SemK.buildSlice mk_52 (vs := [Value.agg #[Value.string n0, Value.int IntKind.i64 (numI c0), Value.int IntKind.i64 (numI m0), Value.int IntKind.i64 (numI p0)]]) (by rfl) (by rfl) (by simp [Value.cells]) (by decide) ?_
        intro b29 w29 g29 l29 e29 B29
        have G29 := Grow.of_blk (n := 1) (enc := TPart.enc) (xs := [⟨n0, numI c0, numI m0, numI p0⟩]) TPart.enc_len B29 g29 rfl (by decide)
        conv => whnf
        refine SemK.appendArr0 (enc := TPart.enc) mk_52 TPart.enc_len (G.ext (Ext.trans (Ext.trans (Ext.trans (Ext.trans e13 e17) e21) e25) e29)) (G29.own.arr TPart.enc_len) (by intro y _; simp [TPart.enc, cellish]) (by omega) (by omega) (Below.size (Ext.trans (Ext.trans (Ext.trans (Ext.trans (Ext.trans hx e13) e17) e21) e25) e29)) ?_
        intro a30 c30 w30 G30 m30 i30
        conv => whnf
        refine SemK.add (((k + 1 : Nat) : Int)) (by omega) (by omega) (by omega) ?_
        conv => whnf
        -- VALUES  Value.string s; Value.slice a30 (n3 + 1) c30; Value.slice (some { block := b2, off := 0 }) init.length (init.length + 1); Value.int IntKind.i64 ↑init.length; Value.int IntKind.i64 ↑(k + 1);
        exact ⟨k + 1, by omega, _, _, _, _, rfl, by omega, G30, hJ2, Ext.mod_trans (Ext.trans (Ext.trans (Ext.trans (Ext.trans (Ext.trans hx e13) e17) e21) e25) e29) m30 (blkIn_new G.new), (A.ext (Ext.trans (Ext.trans (Ext.trans (Ext.trans e13 e17) e21) e25) e29)).mod m30 ap, Apart.app ap i30 (by rintro x hx; cases hx; exact Nat.lt_of_lt_of_le hbl (Below.size (Ext.trans (Ext.trans (Ext.trans (Ext.trans e13 e17) e21) e25) e29))), Nat.lt_of_lt_of_le hbl (Nat.le_trans (Below.size (Ext.trans (Ext.trans (Ext.trans (Ext.trans e13 e17) e21) e25) e29)) m30.size)⟩
      · rw [decs_fail hlk (decPartI_len h6)] at hR
        subst hR
        have hq := split_arr (c := 32) (by omega) (rfl : splitS 32 l = splitS 32 l)
        generalize splitS 32 l = ws at *
        have h6' : ¬ ((ws.length : Nat) : Int) = 6 := by omega
        conv => whnf
        refine IfB.yes (by omega) ?_
        conv => whnf
        refine SemK.index (by kernel_rfl) A k rfl hlk ?_
        intro b9 o9 _ hb9
        conv => whnf
        refine SemK.load0 (by kernel_rfl) hb9 rfl ?_
        conv => whnf
        refine (hq _ (hM.ext hx)).mono ?_
        rintro _ w14 ⟨b10, rfl, q11, A12, e13⟩
        conv => whnf
        refine IfB.eqt (by simp [*]; done) ?_
        conv => whnf
        exact ⟨_, _, _, rfl, NewAt.nil, Own.nil, (Ext.trans hx e13)⟩
    · have hke : k = init.length := by omega
      subst hke
      rw [List.take_of_length_le (by omega)] at hJ
      rw [hJ] at hR
      dsimp only at hR
      have hok : ∀ x ∈ out, x.ok := decs_all (fun l hl x hx => decPartI_ok (hzi l hl) hx) hJ
      cases hv : partsB out
      · rw [hv, if_neg (by simp)] at hR
        subst hR
        conv => whnf
        refine IfB.no (by omega) ?_
        conv => whnf
        refine (impl_ValidParts (G.own.arr TPart.enc_len) hok hnc).mono ?_
        rintro _ w9 ⟨rfl, e8⟩
        conv => whnf
        refine IfB.eqt (by simp [*]; done) ?_
        conv => whnf
        exact ⟨_, _, _, rfl, NewAt.nil, Own.nil, (Ext.trans hx e8)⟩
      · by_cases he : partsText out = s
        · rw [hv, if_pos ⟨rfl, he⟩] at hR
          subst hR
          conv => whnf
          refine IfB.no (by omega) ?_
          conv => whnf
          refine (impl_ValidParts (G.own.arr TPart.enc_len) hok hnc).mono ?_
          rintro _ w9 ⟨rfl, e8⟩
          conv => whnf
          refine IfB.eqf (by simp [*]; done) ?_
          conv => whnf
          refine (impl_PartsText ((G.ext e8).own.arr TPart.enc_len) hok hnc (hT.ext (Ext.trans hx e8))).mono ?_
          rintro _ w11 ⟨rfl, e10⟩
          conv => whnf
          refine IfB.eqf (by simp [*]; done) ?_
          conv => whnf
          exact ⟨_, _, _, rfl, G.new, (G.ext (Ext.trans e8 e10)).own, (Ext.trans (Ext.trans hx e8) e10)⟩
        · rw [hv, if_neg (fun h => he h.2)] at hR
          subst hR
          conv => whnf
          refine IfB.no (by omega) ?_
          conv => whnf
          refine (impl_ValidParts (G.own.arr TPart.enc_len) hok hnc).mono ?_
          rintro _ w9 ⟨rfl, e8⟩
          conv => whnf
          refine IfB.eqf (by simp [*]; done) ?_
          conv => whnf
          refine (impl_PartsText ((G.ext e8).own.arr TPart.enc_len) hok hnc (hT.ext (Ext.trans hx e8))).mono ?_
          rintro _ w11 ⟨rfl, e10⟩
          conv => whnf
          refine IfB.eqt (by simp [*]; done) ?_
          conv => whnf
          exact ⟨_, _, _, rfl, NewAt.nil, Own.nil, (Ext.trans (Ext.trans hx e8) e10)⟩
  · rw [if_neg h1b] at hR
    subst hR
    refine Does.of_vc tabok Tryz.func35 rfl rfl rfl (by kernel_rfl) ?_; conv => whnf
    refine SemK.buildSlice mk_52 (vs := []) (by rfl) (by rfl) (by simp [Value.cells]) (by decide) ?_
    intro b1 w1 g1 l1 e1 B1
    have G1 := Grow.new0 (enc := TPart.enc) TPart.enc_len B1 g1
    conv => whnf
    refine (hSp _ (hM.ext e1)).mono ?_
    rintro _ w6 ⟨b2, rfl, q3, A4, e5⟩
    conv => whnf
    refine IfB.yes (by omega) ?_
    conv => whnf
    exact ⟨_, _, _, rfl, NewAt.nil, Own.nil, (Ext.trans e1 e5)⟩
end Go.Proofs.YtfgbijddjoojbaaGreatDoor
