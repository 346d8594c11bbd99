/- Contracts of functions of the given program, of the reference and of the laws: each says what a call returns, for all arguments that meet the premises that the theorem itself names. -/
import Derived.Test.YtfgbijddjoojbaaGreatDoorDraw
import Derived.Test.YtfgbijddjoojbaaGreatDoorFBox
import Derived.Test.YtfgbijddjoojbaaGreatDoorTexts
namespace Go.M
open Go Go.Vc
theorem wrap_ok (n : Int) : i64ok (IntKind.i64.wrap n) := by
  unfold i64ok
  rw [IntKind.wrap_i64]
  omega
theorem set_box_ok {xs : List TBox} {x' : TBox} {k : Nat} (h : ∀ y ∈ xs, y.ok) (hx : x'.ok) : ∀ y ∈ xs.set k x', y.ok := by
  intro y hy
  rcases List.mem_or_eq_of_mem_set hy with hy | rfl
  · exact h y hy
  · exact hx
theorem zero_ok : TBox.ok ⟨{ data := #[] }, 0, 0, 0, { data := #[] }⟩ := ⟨Nat.zero_le _, ⟨by decide, by decide⟩, ⟨by decide, by decide⟩, ⟨by decide, by decide⟩, Nat.zero_le _⟩
theorem src_new {w w1 : World} {a : Option Addr} (N : NewAt w1.heap.size a) (e : Ext w w1) : ∀ k, blkIn a k → w.heap.size ≤ k := fun k hk => Nat.le_trans e.size (blkIn_new N k hk)
theorem apartChg' {a : Option Addr} {B b : Nat} (N : NewAt B a) (h : b < B) : ∀ x, a = some x → ¬ x.block = b := fun x hx e => by
  have := N x hx
  omega
theorem own_one {w : World} {b t : Nat} {x : TBox} (h : Blk w b x.enc t) : Own TBox.enc w (some ⟨b, 0, none⟩) 1 t [x] := ⟨rfl, by omega, .inr ⟨b, [], rfl, by simpa [flat] using h⟩⟩
theorem own_one' {w : World} {b t : Nat} {x : TBox} (h : Own TBox.enc w (some ⟨b, 0, none⟩) 1 t [x]) : Cells w b 0 x.enc := by
  have := Own.elem TBox.enc_len h (k := 0) rfl
  simpa using this
end Go.M
namespace Go.Proofs.YtfgbijddjoojbaaGreatDoor
open Go Go.Shelf Go.Proofs Go.RowKit Go.Vc Go.M
theorem spec_l01Spoil {w : World} {a0 : Option Addr} {k : Nat} (h : Src w a0 k) (hk : k ≤ 1000000) {t : ByteArray} (ht : t.size ≤ 900000) :
    Does Tryz.prog 94 [.pointer a0, .string t] w (fun v w' => ∃ s : ByteArray, v = .string s ∧ s.size ≤ 1000000 ∧ Src w' a0 (k + 20) ∧ Mod (blkIn a0) w w') := by
  refine Does.of_vc tabok Tryz.func94 rfl rfl rfl (by kernel_rfl) ?_; conv => whnf
  refine (spec_pick h (by omega) (by omega)).mono ?_
  rintro _ w7 ⟨r1, rfl, q2, q3, q4, S5, m6⟩
  conv => whnf
  with_reducible refine IfB.dec (fun h8 => ?_) (fun h8 => ?_)
  · conv => whnf
    refine SemK.add (((t.size + 1 : Nat) : Int)) (by omega) (by omega) (by omega) ?_
    conv => whnf
    refine (spec_pick S5 (by omega) (by omega)).mono ?_
    rintro _ w15 ⟨r9, rfl, q10, q11, q12, S13, m14⟩
    conv => whnf
    obtain ⟨p, rfl⟩ : ∃ p : Nat, r9 = p := ⟨r9.toNat, by omega⟩
    have hx1 := extract_size t 0 p (by omega)
    have hx2 := extract_size t p t.size (by omega)
    refine DrawK.mix tabok mixed (a0) [(0, .any), (1, .any), (3, .any), (7, .any), (8, .any), (2, .held), (9, .held), (4, .run), (5, .run), (6, .any), (10, .any), (11, .any)] (by kernel_rfl) (by kernel_rfl) ?_
    conv => whnf
    intro w16 e16
    conv => whnf
    refine BSemK.of (fun w' _ => SemK.sliceStr (k := .i64) (k' := .i64) (by kernel_rfl) 0 p (by omega) (by omega) (.inl ⟨rfl, rfl⟩) (.inr (by rfl)) ⟨rfl, rfl⟩) ?_
    conv => whnf
    refine BSemK.of (fun w' _ => SemK.sliceStr (k := .i64) (k' := .i64) (by kernel_rfl) p t.size (by omega) (by omega) (.inr (by rfl)) (.inl ⟨rfl, rfl⟩) ⟨rfl, rfl⟩) ?_
    conv => whnf
    refine SemK.buildSlice mk_32 (vs := [Value.string { data := #[32] }, Value.string { data := #[48] }, Value.string { data := #[45] }, Value.string { data := #[120] }, Value.string { data := #[49] }, Value.string { data := #[57] }, Value.string { data := #[46] }]) (by rfl) (by rfl) (by simp [Value.cells]) (by decide) ?_
    intro b17 w17 g17 l17 e17 B17
    have G17 := Grow.of_blk (n := 7) (enc := eS) (xs := [{ data := #[32] }, { data := #[48] }, { data := #[45] }, { data := #[120] }, { data := #[49] }, { data := #[57] }, { data := #[46] }]) eS_len B17 g17 rfl (by decide)
    conv => whnf
    refine ⟨e17.mod, ?_⟩
    conv => whnf
    refine (spec_text (S13.ext (Ext.trans e16 e17)) (by omega) (G17.own.arr eS_len) (apart' G17.new h.lt (Nat.le_trans (Nat.le_trans (Mod.size m6) (Mod.size m14)) (Below.size e16))) (by omega) (by omega)).mono ?_
    rintro _ w22 ⟨r18, rfl, q19, S20, m21⟩
    conv => whnf
    refine ⟨(e17.mod.trans m21), ?_⟩
    conv => whnf
    have hr18 : r18.size ≤ 1 := by
      simp only [List.mem_cons, List.not_mem_nil, or_false] at q19
      rcases q19 with rfl | rfl | rfl | rfl | rfl | rfl | rfl <;> exact Nat.le_of_ble_eq_true rfl
    refine PSemK.cat (by omega) ?_
    conv => whnf
    refine PSemK.cat (by rw [ByteArray.size_append]; omega) ?_
    conv => whnf
    refine ⟨_, rfl, ?_, (S20.more (by omega)), ((((m6.trans m14).trans e16.mod).trans e17.mod).trans m21)⟩
    · rw [ByteArray.size_append, ByteArray.size_append]; omega
  · conv => whnf
    with_reducible refine IfB.dec (fun h17 => ?_) (fun h17 => ?_)
    · conv => whnf
      with_reducible refine IfB.ndec (fun h18 => ?_) (fun h18 => ?_)
      · have hts : 0 < t.size := Nat.pos_of_ne_zero (fun e => h18 (by rw [← bs_self t, List.eq_nil_of_length_eq_zero (l := t.data.toList) (by simpa using e)]; rfl))
        conv => whnf
        refine (spec_pick S5 (by omega) (by omega)).mono ?_
        rintro _ w25 ⟨r19, rfl, q20, q21, q22, S23, m24⟩
        conv => whnf
        obtain ⟨p, rfl⟩ : ∃ p : Nat, r19 = p := ⟨r19.toNat, by omega⟩
        have hx1 := extract_size t 0 p (by omega)
        have hx2 := extract_size t (p + 1) t.size (by omega)
        refine DrawK.det tabok mixed (by kernel_rfl) (by kernel_rfl) ?_
        conv => whnf
        refine DSemK.sliceStr (k := .i64) (k' := .i64) (by kernel_rfl) 0 p (by omega) (by omega) (.inl ⟨rfl, rfl⟩) (.inr (by rfl)) ?_
        conv => whnf
        refine DSemK.add (((p + 1 : Nat) : Int)) (by omega) (by omega) (by omega) ?_
        conv => whnf
        refine DSemK.sliceStr (k := .i64) (k' := .i64) (by kernel_rfl) (p + 1) t.size (by omega) (by omega) (.inr (by rfl)) (.inl ⟨rfl, rfl⟩) ?_
        conv => whnf
        refine DSemK.cat (by omega) ?_
        conv => whnf
        intro w26 e26
        conv => whnf
        refine ⟨_, rfl, ?_, ((S23.ext e26).more (by omega)), ((m6.trans m24).trans e26.mod)⟩
        · rw [ByteArray.size_append]; omega
      · conv => whnf
        exact ⟨_, rfl, by omega, (S5.more (by omega)), m6⟩
    · conv => whnf
      exact ⟨_, rfl, by omega, (S5.more (by omega)), m6⟩
end Go.Proofs.YtfgbijddjoojbaaGreatDoor
