/- Contracts of functions of the given program, of the reference and of the laws: each says what a call returns, for all arguments that meet the premises that the theorem itself names. -/
import Derived.Test.YtkjmbjedbmblmaaGreatDoorDrawX
import Derived.Test.YtkjmbjedbmblmaaGreatDoorTexts
namespace Go.M
open Go Go.Vc
theorem wrap_ok (n : Int) : i64ok (IntKind.i64.wrap n) := by
  unfold i64ok
  rw [IntKind.wrap_i64]
  omega
theorem set_box_ok {xs : List TBox} {x' : TBox} {k : Nat} (h : ∀ y ∈ xs, y.ok) (hx : x'.ok) : ∀ y ∈ xs.set k x', y.ok := by
  intro y hy
  rcases List.mem_or_eq_of_mem_set hy with hy | rfl
  · exact h y hy
  · exact hx
theorem zero_ok : TBox.ok ⟨{ data := #[] }, 0, 0, 0, { data := #[] }⟩ := ⟨Nat.zero_le _, ⟨by decide, by decide⟩, ⟨by decide, by decide⟩, ⟨by decide, by decide⟩, Nat.zero_le _⟩
theorem src_new {w w1 : World} {a : Option Addr} (N : NewAt w1.heap.size a) (e : Ext w w1) : ∀ k, blkIn a k → w.heap.size ≤ k := fun k hk => Nat.le_trans e.size (blkIn_new N k hk)
theorem apartChg' {a : Option Addr} {B b : Nat} (N : NewAt B a) (h : b < B) : ∀ x, a = some x → ¬ x.block = b := fun x hx e => by
  have := N x hx
  omega
theorem own_one {w : World} {b t : Nat} {x : TBox} (h : Blk w b x.enc t) : Own TBox.enc w (some ⟨b, 0, none⟩) 1 t [x] := ⟨rfl, by omega, .inr ⟨b, [], rfl, by simpa [flat] using h⟩⟩
theorem own_one' {w : World} {b t : Nat} {x : TBox} (h : Own TBox.enc w (some ⟨b, 0, none⟩) 1 t [x]) : Cells w b 0 x.enc := by
  have := Own.elem TBox.enc_len h (k := 0) rfl
  simpa using this
end Go.M
namespace Go.Proofs.YtkjmbjedbmblmaaGreatDoor
open Go Go.Shelf Go.Proofs Go.RowKit Go.Vc Go.M
theorem spec_l01Spoil {w : World} {a0 : Option Addr} {k : Nat} (h : Src w a0 k) (hk : k ≤ 1000000) {t : ByteArray} (ht : t.size ≤ 900000) :
    Does Tryz.prog 177 [.pointer a0, .string t] w (fun v w' => ∃ s : ByteArray, v = .string s ∧ s.size ≤ 1000000 ∧ Src w' a0 (k + 20) ∧ Mod (blkIn a0) w w') := by
  refine Does.of_vc tabok Tryz.func177 rfl rfl rfl (by kernel_rfl) ?_; conv => whnf
  refine (spec_pick h (by omega) (by omega)).mono ?_
  rintro _ w7 ⟨r1, rfl, q2, q3, q4, S5, m6⟩
  conv => whnf
  with_reducible refine IfB.dec (fun h8 => ?_) (fun h8 => ?_)
  · conv => whnf
    refine SemK.add (((t.size + 1 : Nat) : Int)) (by omega) (by omega) (by omega) ?_
    conv => whnf
    refine (spec_pick S5 (by omega) (by omega)).mono ?_
    rintro _ w15 ⟨r9, rfl, q10, q11, q12, S13, m14⟩
    conv => whnf
    obtain ⟨p, rfl⟩ : ∃ p : Nat, r9 = p := ⟨r9.toNat, by omega⟩
    have hx1 := extract_size t 0 p (by omega)
    have hx2 := extract_size t p t.size (by omega)
    refine DrawK.mix tabok mixed (a0) [(0, .any), (1, .any), (3, .any), (7, .any), (8, .any), (2, .held), (9, .held), (4, .run), (5, .run), (6, .any), (10, .any), (11, .any)] (by kernel_rfl) (by kernel_rfl) ?_
    conv => whnf
    intro w16 e16
    conv => whnf
    refine BSemK.of (fun w' _ => SemK.sliceStr (k := .i64) (k' := .i64) (by kernel_rfl) 0 p (by omega) (by omega) (.inl ⟨rfl, rfl⟩) (.inr (by rfl)) ⟨rfl, rfl⟩) ?_
    conv => whnf
    refine BSemK.of (fun w' _ => SemK.sliceStr (k := .i64) (k' := .i64) (by kernel_rfl) p t.size (by omega) (by omega) (.inr (by rfl)) (.inl ⟨rfl, rfl⟩) ⟨rfl, rfl⟩) ?_
    conv => whnf
    refine SemK.buildSlice mk_32 (vs := [Value.string { data := #[32] }, Value.string { data := #[48] }, Value.string { data := #[45] }, Value.string { data := #[120] }, Value.string { data := #[49] }, Value.string { data := #[57] }, Value.string { data := #[46] }]) (by rfl) (by rfl) (by simp [Value.cells]) (by decide) ?_
    intro b17 w17 g17 l17 e17 B17
    have G17 := Grow.of_blk (n := 7) (enc := eS) (xs := [{ data := #[32] }, { data := #[48] }, { data := #[45] }, { data := #[120] }, { data := #[49] }, { data := #[57] }, { data := #[46] }]) eS_len B17 g17 rfl (by decide)
    conv => whnf
    refine ⟨e17.mod, ?_⟩
    conv => whnf
    refine (spec_text (S13.ext (Ext.trans e16 e17)) (by omega) (G17.own.arr eS_len) (apart' G17.new h.lt (Nat.le_trans (Nat.le_trans (Mod.size m6) (Mod.size m14)) (Below.size e16))) (by omega) (by omega)).mono ?_
    rintro _ w22 ⟨r18, rfl, q19, S20, m21⟩
    conv => whnf
    refine ⟨(e17.mod.trans m21), ?_⟩
    conv => whnf
    have hr18 : r18.size ≤ 1 := by
      simp only [List.mem_cons, List.not_mem_nil, or_false] at q19
      rcases q19 with rfl | rfl | rfl | rfl | rfl | rfl | rfl <;> exact Nat.le_of_ble_eq_true rfl
    refine PSemK.cat (by omega) ?_
    conv => whnf
    refine PSemK.cat (by rw [ByteArray.size_append]; omega) ?_
    conv => whnf
    refine ⟨_, rfl, ?_, (S20.more (by omega)), ((((m6.trans m14).trans e16.mod).trans e17.mod).trans m21)⟩
    · rw [ByteArray.size_append, ByteArray.size_append]; omega
  · conv => whnf
    with_reducible refine IfB.dec (fun h17 => ?_) (fun h17 => ?_)
    · conv => whnf
      with_reducible refine IfB.ndec (fun h18 => ?_) (fun h18 => ?_)
      · have hts : 0 < t.size := Nat.pos_of_ne_zero (fun e => h18 (by rw [← bs_self t, List.eq_nil_of_length_eq_zero (l := t.data.toList) (by simpa using e)]; rfl))
        conv => whnf
        refine (spec_pick S5 (by omega) (by omega)).mono ?_
        rintro _ w25 ⟨r19, rfl, q20, q21, q22, S23, m24⟩
        conv => whnf
        obtain ⟨p, rfl⟩ : ∃ p : Nat, r19 = p := ⟨r19.toNat, by omega⟩
        have hx1 := extract_size t 0 p (by omega)
        have hx2 := extract_size t (p + 1) t.size (by omega)
        refine DrawK.det tabok mixed (by kernel_rfl) (by kernel_rfl) ?_
        conv => whnf
        refine DSemK.sliceStr (k := .i64) (k' := .i64) (by kernel_rfl) 0 p (by omega) (by omega) (.inl ⟨rfl, rfl⟩) (.inr (by rfl)) ?_
        conv => whnf
        refine DSemK.add (((p + 1 : Nat) : Int)) (by omega) (by omega) (by omega) ?_
        conv => whnf
        refine DSemK.sliceStr (k := .i64) (k' := .i64) (by kernel_rfl) (p + 1) t.size (by omega) (by omega) (.inr (by rfl)) (.inl ⟨rfl, rfl⟩) ?_
        conv => whnf
        refine DSemK.cat (by omega) ?_
        conv => whnf
        intro w26 e26
        conv => whnf
        refine ⟨_, rfl, ?_, ((S23.ext e26).more (by omega)), ((m6.trans m24).trans e26.mod)⟩
        · rw [ByteArray.size_append]; omega
      · conv => whnf
        exact ⟨_, rfl, by omega, (S5.more (by omega)), m6⟩
    · conv => whnf
      exact ⟨_, rfl, by omega, (S5.more (by omega)), m6⟩
theorem spec_DrawLendBox {w : World} {a : Option Addr} {n c : Nat} {xs : List UInt8} (h : Arr eB 1 w a n xs) :
    Does Tryz.prog 55 [.slice a n c] w (fun v w' => ∃ a' n' c' xs s1 s2, v = .tuple #[.slice a' n' c', .string s1, .string s2] ∧ n' ≤ 42 ∧ n' ≤ c' ∧ s1.size ≤ 12 ∧ s2.size ≤ 12 ∧ (∀ x ∈ xs, x.ok) ∧ NewAt w.heap.size a' ∧ Own TBox.enc w' a' n' 99 xs ∧ Ext w w') := by
  refine Does.of_vc tabok Tryz.func55 rfl rfl rfl (by kernel_rfl) ?_; conv => whnf
  refine (spec_l00From h).mono ?_
  rintro _ w5 ⟨a'1, rfl, N2, S3, e4⟩
  conv => whnf
  refine (spec_l26Bent S3 (by omega)).mono ?_
  rintro _ w17 ⟨a'6, n'7, c'8, xs9, rfl, q10, q11, q12, N13, O14, S15, m16⟩
  conv => whnf
  refine (spec_l26Name S15 (by omega)).mono ?_
  rintro _ w22 ⟨s18, rfl, q19, S20, m21⟩
  conv => whnf
  refine SemK.buildSlice mk_32 (vs := [Value.string { data := #[97, 110, 110] }, Value.string { data := #[98, 111, 98] }, Value.string { data := #[99, 121] }, Value.string { data := #[] }, Value.string { data := #[65, 110, 110] }]) (by rfl) (by rfl) (by simp [Value.cells]) (by decide) ?_
  intro b23 w23 g23 l23 e23 B23
  have G23 := Grow.of_blk (n := 5) (enc := eS) (xs := [{ data := #[97, 110, 110] }, { data := #[98, 111, 98] }, { data := #[99, 121] }, { data := #[] }, { data := #[65, 110, 110] }]) eS_len B23 g23 rfl (by decide)
  conv => whnf
  refine (spec_text (S20.ext e23) (by omega) (G23.own.arr eS_len) (apart' G23.new S3.lt (Nat.le_trans (Mod.size m16) (Mod.size m21))) (by omega) (by omega)).mono ?_
  rintro _ w28 ⟨r24, rfl, q25, S26, m27⟩
  conv => whnf
  refine ⟨_, _, _, _, _, _, rfl, by omega, by omega, by omega, ?_, by omega, (N13.mono (Below.size e4)), (((O14.mod m21 (apart' N13 S3.lt (Nat.le_refl _))).ext e23).mod m27 (apart' N13 S3.lt (Nat.le_refl _))), (Ext.mod_trans (Ext.trans (Ext.mod_trans (Ext.mod_trans e4 m16 (blkIn_new N2)) m21 (blkIn_new N2)) e23) m27 (blkIn_new N2))⟩
  · simp only [List.mem_cons, List.not_mem_nil, or_false] at q25
    rcases q25 with rfl | rfl | rfl | rfl | rfl <;> exact Nat.le_of_ble_eq_true rfl
theorem spec_DrawReturnBox {w : World} {a : Option Addr} {n c : Nat} {xs : List UInt8} (h : Arr eB 1 w a n xs) :
    Does Tryz.prog 58 [.slice a n c] w (fun v w' => ∃ a' n' c' xs s1, v = .tuple #[.slice a' n' c', .string s1] ∧ n' ≤ 42 ∧ n' ≤ c' ∧ s1.size ≤ 12 ∧ (∀ x ∈ xs, x.ok) ∧ NewAt w.heap.size a' ∧ Own TBox.enc w' a' n' 99 xs ∧ Ext w w') := by
  refine Does.of_vc tabok Tryz.func58 rfl rfl rfl (by kernel_rfl) ?_; conv => whnf
  refine (spec_l00From h).mono ?_
  rintro _ w5 ⟨a'1, rfl, N2, S3, e4⟩
  conv => whnf
  refine (spec_l26Bent S3 (by omega)).mono ?_
  rintro _ w17 ⟨a'6, n'7, c'8, xs9, rfl, q10, q11, q12, N13, O14, S15, m16⟩
  conv => whnf
  refine (spec_l26Name S15 (by omega)).mono ?_
  rintro _ w22 ⟨s18, rfl, q19, S20, m21⟩
  conv => whnf
  exact ⟨_, _, _, _, _, rfl, by omega, by omega, by omega, by omega, (N13.mono (Below.size e4)), (O14.mod m21 (apart' N13 S3.lt (Nat.le_refl _))), (Ext.mod_trans (Ext.mod_trans e4 m16 (blkIn_new N2)) m21 (blkIn_new N2))⟩
theorem spec_DrawLentTo {w : World} {a : Option Addr} {n c : Nat} {xs : List UInt8} (h : Arr eB 1 w a n xs) :
    Does Tryz.prog 61 [.slice a n c] w (fun v w' => ∃ a' n' c' xs s1, v = .tuple #[.slice a' n' c', .string s1] ∧ n' ≤ 42 ∧ n' ≤ c' ∧ s1.size ≤ 12 ∧ (∀ x ∈ xs, x.ok) ∧ NewAt w.heap.size a' ∧ Own TBox.enc w' a' n' 99 xs ∧ Ext w w') := by
  refine Does.of_vc tabok Tryz.func61 rfl rfl rfl (by kernel_rfl) ?_; conv => whnf
  refine (spec_l00From h).mono ?_
  rintro _ w5 ⟨a'1, rfl, N2, S3, e4⟩
  conv => whnf
  refine (spec_l26Bent S3 (by omega)).mono ?_
  rintro _ w17 ⟨a'6, n'7, c'8, xs9, rfl, q10, q11, q12, N13, O14, S15, m16⟩
  conv => whnf
  refine SemK.buildSlice mk_32 (vs := [Value.string { data := #[97, 110, 110] }, Value.string { data := #[98, 111, 98] }, Value.string { data := #[99, 121] }, Value.string { data := #[] }]) (by rfl) (by rfl) (by simp [Value.cells]) (by decide) ?_
  intro b18 w18 g18 l18 e18 B18
  have G18 := Grow.of_blk (n := 4) (enc := eS) (xs := [{ data := #[97, 110, 110] }, { data := #[98, 111, 98] }, { data := #[99, 121] }, { data := #[] }]) eS_len B18 g18 rfl (by decide)
  conv => whnf
  refine (spec_text (S15.ext e18) (by omega) (G18.own.arr eS_len) (apart' G18.new S3.lt (Mod.size m16)) (by omega) (by omega)).mono ?_
  rintro _ w23 ⟨r19, rfl, q20, S21, m22⟩
  conv => whnf
  refine ⟨_, _, _, _, _, rfl, by omega, by omega, ?_, by omega, (N13.mono (Below.size e4)), ((O14.ext e18).mod m22 (apart' N13 S3.lt (Nat.le_refl _))), (Ext.mod_trans (Ext.trans (Ext.mod_trans e4 m16 (blkIn_new N2)) e18) m22 (blkIn_new N2))⟩
  · simp only [List.mem_cons, List.not_mem_nil, or_false] at q20
    rcases q20 with rfl | rfl | rfl | rfl <;> exact Nat.le_of_ble_eq_true rfl
theorem spec_DrawBoxesText {w : World} {a : Option Addr} {n c : Nat} {xs : List UInt8} (h : Arr eB 1 w a n xs) :
    Does Tryz.prog 64 [.slice a n c] w (fun v w' => ∃ a' n' c' xs, v = .slice a' n' c' ∧ n' ≤ 42 ∧ n' ≤ c' ∧ (∀ x ∈ xs, x.ok) ∧ NewAt w.heap.size a' ∧ Own TBox.enc w' a' n' 99 xs ∧ Ext w w') := by
  refine Does.of_vc tabok Tryz.func64 rfl rfl rfl (by kernel_rfl) ?_; conv => whnf
  refine (spec_l00From h).mono ?_
  rintro _ w5 ⟨a'1, rfl, N2, S3, e4⟩
  conv => whnf
  refine (spec_l26Bent S3 (by omega)).mono ?_
  rintro _ w17 ⟨a'6, n'7, c'8, xs9, rfl, q10, q11, q12, N13, O14, S15, m16⟩
  conv => whnf
  exact ⟨_, _, _, _, rfl, by omega, by omega, by omega, (N13.mono (Below.size e4)), O14, (Ext.mod_trans e4 m16 (blkIn_new N2))⟩
theorem spec_DrawReadBoxes {w : World} {a : Option Addr} {n c : Nat} {xs : List UInt8} (h : Arr eB 1 w a n xs) :
    Does Tryz.prog 67 [.slice a n c] w (fun v w' => ∃ s, v = .string s ∧ s.size ≤ 1000000 ∧ Ext w w') := by
  refine Does.of_vc tabok Tryz.func67 rfl rfl rfl (by kernel_rfl) ?_; conv => whnf
  refine (spec_l00From h).mono ?_
  rintro _ w5 ⟨a'1, rfl, N2, S3, e4⟩
  conv => whnf
  refine (spec_l26Draw S3 (by omega)).mono ?_
  rintro _ w16 ⟨a'6, n'7, c'8, xs9, rfl, q10, q11, N12, G13, S14, m15⟩
  have leG13 := G13.le.1
  have lnG13 := G13.len
  conv => whnf
  have hcs : (bs (cats (xs9.map boxLine))).size ≤ 900000 := by
    rw [bs_size]
    have := cats_len (f := boxLine) (m := 100) (xs := xs9) (fun x hx => boxLine_sm (q11 x hx).2)
    omega
  refine (spec_l26Text (G13.own.arr TBox.enc_len) (fun x hx => (q11 x hx).2) (by omega)).mono ?_
  rintro _ w18 ⟨rfl, e17⟩
  conv => whnf
  refine (spec_one (S14.ext e17) (by omega) (by omega)).mono ?_
  rintro _ w22 ⟨r19, rfl, S20, m21⟩
  conv => whnf
  with_reducible refine IfB.split (fun h23 => ?_) (fun h23 => ?_)
  · conv => whnf
    refine (spec_l01Spoil S20 (by omega) hcs).mono ?_
    rintro _ w28 ⟨s24, rfl, q25, S26, m27⟩
    conv => whnf
    exact ⟨_, rfl, by omega, (Ext.mod_trans (Ext.mod_trans (Ext.trans (Ext.mod_trans e4 m15 (blkIn_new N2)) e17) m21 (blkIn_new N2)) m27 (blkIn_new N2))⟩
  · conv => whnf
    refine ⟨_, rfl, ?_, (Ext.mod_trans (Ext.trans (Ext.mod_trans e4 m15 (blkIn_new N2)) e17) m21 (blkIn_new N2))⟩
    · omega
theorem spec_DrawSameBoxes {w : World} {a : Option Addr} {n c : Nat} {xs : List UInt8} (h : Arr eB 1 w a n xs) :
    Does Tryz.prog 69 [.slice a n c] w (fun v w' => ∃ a1 n1 c1 xs a2 n2 c2 ys, v = .tuple #[.slice a1 n1 c1, .slice a2 n2 c2] ∧ (∀ x ∈ xs, x.ok) ∧ (∀ x ∈ ys, x.ok) ∧ Arr TBox.enc 5 w' a1 n1 xs ∧ Arr TBox.enc 5 w' a2 n2 ys ∧ Ext w w') := by
  refine Does.of_vc tabok Tryz.func69 rfl rfl rfl (by kernel_rfl) ?_; conv => whnf
  refine (spec_l00From h).mono ?_
  rintro _ w5 ⟨a'1, rfl, N2, S3, e4⟩
  conv => whnf
  refine (spec_l26Draw S3 (by omega)).mono ?_
  rintro _ w16 ⟨a'6, n'7, c'8, xs9, rfl, q10, q11, N12, G13, S14, m15⟩
  have leG13 := G13.le.1
  have lnG13 := G13.len
  conv => whnf
  refine SemK.buildSlice mk_97 (vs := []) (by rfl) (by rfl) (by simp [Value.cells]) (by decide) ?_
  intro b17 w17 g17 l17 e17 B17
  have G17 := Grow.new0 (enc := TBox.enc) TBox.enc_len B17 g17
  conv => whnf
  refine SemK.appendNew (enc := TBox.enc) mk_97 TBox.enc_len G17 ((G13.ext e17).own.arr TBox.enc_len) (by intro y _; simp [TBox.enc, cellish]) (by omega) (by omega) (Below.size e17) ?_
  intro a18 c18 w18 G18 m18 i18
  conv => whnf
  with_reducible refine IfB.dec (fun h19 => ?_) (fun h19 => ?_)
  · conv => whnf
    refine (spec_one ((S14.ext e17).mod m18 (later S3.lt G17.new (Mod.size m15))) (by omega) (by omega)).mono ?_
    rintro _ w23 ⟨r20, rfl, S21, m22⟩
    conv => whnf
    with_reducible refine IfB.split (fun h24 => ?_) (fun h24 => ?_)
    · conv => whnf
      refine DrawK.mix tabok mixed (a'1) [(0, .any), (1, .any), (2, .any), (4, .any), (3, .held), (5, .run), (6, .any), (7, .any), (8, .any), (9, .write)] (by kernel_rfl) (by kernel_rfl) ?_
      conv => whnf
      intro w25 e25
      conv => whnf
      obtain ⟨x26, hx26⟩ : ∃ x, xs9[0]? = some x := get_of_lt (by omega)
      have ok26 := q11 _ (List.mem_of_getElem? hx26)
      obtain ⟨b27, rfl⟩ := (((G18.mod m22 (apart' G18.new S3.lt (Mod.size m15))).ext e25).own).some (by omega)
      have gb27 : w16.heap.size ≤ b27 := G18.new _ rfl
      have lb27 : b27 < w18.heap.size := G18.lt _ rfl
      refine PSemK.indexOwn (sz := 5) (by kernel_rfl) 0 rfl (by omega) ?_
      have hb27 := Own.elem TBox.enc_len ((G18.mod m22 (apart' G18.new S3.lt (Mod.size m15))).ext e25).own hx26
      conv => whnf
      refine BSemK.load1 (by kernel_rfl) (k := 1) (Sr.cells hb27 (blkNew S3.lt gb27 (Mod.size m15))) rfl ?_
      conv => whnf
      refine (spec_pick (S21.ext e25) (by omega) (by omega)).mono ?_
      rintro _ w34 ⟨r28, rfl, q29, q30, q31, S32, m33⟩
      conv => whnf
      refine ⟨m33, ?_⟩
      conv => whnf
      refine PSemK.wadd ?_
      conv => whnf
      refine PSemK.indexOwn (sz := 5) (by kernel_rfl) 0 rfl (by omega) ?_
      have hb36 := Own.elem TBox.enc_len (((G18.mod m22 (apart' (NewAt.some gb27) S3.lt (Mod.size m15))).ext e25).mod m33 (apart' (NewAt.some gb27) S3.lt (Mod.size m15))).own hx26
      conv => whnf
      refine SemK.storeGrow1 (k := 0) (j := 1) (by kernel_rfl) TBox.enc_len (((G18.mod m22 (apart' (NewAt.some gb27) S3.lt (Mod.size m15))).ext e25).mod m33 (apart' (NewAt.some gb27) S3.lt (Mod.size m15))) hx26 (by decide) rfl { x26 with cards := IntKind.i64.wrap (x26.cards + r28) } rfl ?_
      intro w37 c37 B37
      have hx37 := set_get hx26 ({ x26 with cards := IntKind.i64.wrap (x26.cards + r28) })
      conv => whnf
      refine (spec_one (S32.chg c37 S3.lt gb27 (Mod.size m15)) (by omega) (by omega)).mono ?_
      rintro _ w41 ⟨r38, rfl, S39, m40⟩
      conv => whnf
      with_reducible refine IfB.split (fun h42 => ?_) (fun h42 => ?_)
      · conv => whnf
        refine SemK.build st_99 rfl ?_
        conv => whnf
        refine SemK.buildSlice mk_97 (vs := [Value.agg #[Value.string { data := #[] }, Value.int IntKind.i64 0, Value.int IntKind.i64 0, Value.int IntKind.i64 0, Value.string { data := #[] }]]) (by rfl) (by rfl) (by simp [Value.cells]) (by decide) ?_
        intro b43 w43 g43 l43 e43 B43
        have G43 := Grow.of_blk (n := 1) (enc := TBox.enc) (xs := [⟨{ data := #[] }, 0, 0, 0, { data := #[] }⟩]) TBox.enc_len B43 g43 rfl (by decide)
        conv => whnf
        refine SemK.appendArr0 (enc := TBox.enc) mk_97 TBox.enc_len ((B37.mod m40 (apart' B37.new S3.lt (Mod.size m15))).ext e43) (G43.own.arr TBox.enc_len) (by intro y _; simp [TBox.enc, cellish]) (by omega) (by omega) (Nat.le_trans (Nat.le_trans (Nat.le_trans (Nat.le_trans (Nat.le_trans (Nat.le_trans (Nat.le_trans (Below.size e17) (Mod.size m18)) (Mod.size m22)) (Below.size e25)) (Mod.size m33)) (Chg.size_le c37)) (Mod.size m40)) (Below.size e43)) ?_
        intro a44 c44 w44 G44 m44 i44
        conv => whnf
        refine ⟨_, _, _, _, _, _, _, _, rfl, by simp_all, ?_, (((((((((G13.ext (Ext.mod_trans e17 m18 (blkIn_new G17.new))).mod m22 (apart' G13.new S3.lt (Nat.le_refl _))).ext e25).mod m33 (apart' G13.new S3.lt (Nat.le_refl _))).mod c37.but (apartChg G13.lt gb27 (Nat.le_refl _))).mod m40 (apart' G13.new S3.lt (Nat.le_refl _))).ext e43).mod m44 (apart G13.lt B37.new (Nat.le_refl _))).own.arr TBox.enc_len), (G44.own.arr TBox.enc_len), (Ext.mod_trans (Ext.trans (Ext.mod_trans (Ext.but_trans (Ext.mod_trans (Ext.trans (Ext.mod_trans (Ext.mod_trans (Ext.trans (Ext.mod_trans e4 m15 (blkIn_new N2)) e17) m18 (fun k hk => Nat.le_trans (Below.size (Ext.mod_trans e4 m15 (blkIn_new N2))) (blkIn_new G17.new k hk))) m22 (blkIn_new N2)) e25) m33 (blkIn_new N2)) c37.but (Nat.le_trans (Below.size (Ext.mod_trans e4 m15 (blkIn_new N2))) gb27)) m40 (blkIn_new N2)) e43) m44 (fun k hk => Nat.le_trans (Below.size (Ext.mod_trans e4 m15 (blkIn_new N2))) (blkIn_new B37.new k hk)))⟩
        · exact all_snoc (set_box_ok (x' := { x26 with cards := IntKind.i64.wrap (x26.cards + r28) }) (fun x hx => (q11 x hx).1) ⟨(q11 _ (List.mem_of_getElem? hx26)).1.1, wrap_ok _, (q11 _ (List.mem_of_getElem? hx26)).1.2.2.1, (q11 _ (List.mem_of_getElem? hx26)).1.2.2.2.1, (q11 _ (List.mem_of_getElem? hx26)).1.2.2.2.2⟩) zero_ok
      · conv => whnf
        refine ⟨_, _, _, _, _, _, _, _, rfl, by simp_all, ?_, (((((((G13.ext (Ext.mod_trans e17 m18 (blkIn_new G17.new))).mod m22 (apart' G13.new S3.lt (Nat.le_refl _))).ext e25).mod m33 (apart' G13.new S3.lt (Nat.le_refl _))).mod c37.but (apartChg G13.lt gb27 (Nat.le_refl _))).mod m40 (apart' G13.new S3.lt (Nat.le_refl _))).own.arr TBox.enc_len), ((B37.mod m40 (apart' B37.new S3.lt (Mod.size m15))).own.arr TBox.enc_len), (Ext.mod_trans (Ext.but_trans (Ext.mod_trans (Ext.trans (Ext.mod_trans (Ext.mod_trans (Ext.trans (Ext.mod_trans e4 m15 (blkIn_new N2)) e17) m18 (fun k hk => Nat.le_trans (Below.size (Ext.mod_trans e4 m15 (blkIn_new N2))) (blkIn_new G17.new k hk))) m22 (blkIn_new N2)) e25) m33 (blkIn_new N2)) c37.but (Nat.le_trans (Below.size (Ext.mod_trans e4 m15 (blkIn_new N2))) gb27)) m40 (blkIn_new N2))⟩
        · exact set_box_ok (x' := { x26 with cards := IntKind.i64.wrap (x26.cards + r28) }) (fun x hx => (q11 x hx).1) ⟨(q11 _ (List.mem_of_getElem? hx26)).1.1, wrap_ok _, (q11 _ (List.mem_of_getElem? hx26)).1.2.2.1, (q11 _ (List.mem_of_getElem? hx26)).1.2.2.2.1, (q11 _ (List.mem_of_getElem? hx26)).1.2.2.2.2⟩
    · conv => whnf
      refine (spec_one S21 (by omega) (by omega)).mono ?_
      rintro _ w48 ⟨r45, rfl, S46, m47⟩
      conv => whnf
      with_reducible refine IfB.split (fun h49 => ?_) (fun h49 => ?_)
      · conv => whnf
        refine SemK.build st_99 rfl ?_
        conv => whnf
        refine SemK.buildSlice mk_97 (vs := [Value.agg #[Value.string { data := #[] }, Value.int IntKind.i64 0, Value.int IntKind.i64 0, Value.int IntKind.i64 0, Value.string { data := #[] }]]) (by rfl) (by rfl) (by simp [Value.cells]) (by decide) ?_
        intro b50 w50 g50 l50 e50 B50
        have G50 := Grow.of_blk (n := 1) (enc := TBox.enc) (xs := [⟨{ data := #[] }, 0, 0, 0, { data := #[] }⟩]) TBox.enc_len B50 g50 rfl (by decide)
        conv => whnf
        refine SemK.appendArr0 (enc := TBox.enc) mk_97 TBox.enc_len (((G18.mod m22 (apart' G18.new S3.lt (Mod.size m15))).mod m47 (apart' G18.new S3.lt (Mod.size m15))).ext e50) (G50.own.arr TBox.enc_len) (by intro y _; simp [TBox.enc, cellish]) (by omega) (by omega) (Nat.le_trans (Nat.le_trans (Nat.le_trans (Nat.le_trans (Below.size e17) (Mod.size m18)) (Mod.size m22)) (Mod.size m47)) (Below.size e50)) ?_
        intro a51 c51 w51 G51 m51 i51
        conv => whnf
        refine ⟨_, _, _, _, _, _, _, _, rfl, by simp_all, ?_, ((((((G13.ext (Ext.mod_trans e17 m18 (blkIn_new G17.new))).mod m22 (apart' G13.new S3.lt (Nat.le_refl _))).mod m47 (apart' G13.new S3.lt (Nat.le_refl _))).ext e50).mod m51 (apart G13.lt G18.new (Nat.le_refl _))).own.arr TBox.enc_len), (G51.own.arr TBox.enc_len), (Ext.mod_trans (Ext.trans (Ext.mod_trans (Ext.mod_trans (Ext.mod_trans (Ext.trans (Ext.mod_trans e4 m15 (blkIn_new N2)) e17) m18 (fun k hk => Nat.le_trans (Below.size (Ext.mod_trans e4 m15 (blkIn_new N2))) (blkIn_new G17.new k hk))) m22 (blkIn_new N2)) m47 (blkIn_new N2)) e50) m51 (fun k hk => Nat.le_trans (Below.size (Ext.mod_trans e4 m15 (blkIn_new N2))) (blkIn_new G18.new k hk)))⟩
        · exact all_snoc (fun x hx => (q11 x hx).1) zero_ok
      · conv => whnf
        exact ⟨_, _, _, _, _, _, _, _, rfl, by simp_all, by simp_all, ((((G13.ext (Ext.mod_trans e17 m18 (blkIn_new G17.new))).mod m22 (apart' G13.new S3.lt (Nat.le_refl _))).mod m47 (apart' G13.new S3.lt (Nat.le_refl _))).own.arr TBox.enc_len), (((G18.mod m22 (apart' G18.new S3.lt (Mod.size m15))).mod m47 (apart' G18.new S3.lt (Mod.size m15))).own.arr TBox.enc_len), (Ext.mod_trans (Ext.mod_trans (Ext.mod_trans (Ext.trans (Ext.mod_trans e4 m15 (blkIn_new N2)) e17) m18 (fun k hk => Nat.le_trans (Below.size (Ext.mod_trans e4 m15 (blkIn_new N2))) (blkIn_new G17.new k hk))) m22 (blkIn_new N2)) m47 (blkIn_new N2))⟩
  · conv => whnf
    refine (spec_one ((S14.ext e17).mod m18 (later S3.lt G17.new (Mod.size m15))) (by omega) (by omega)).mono ?_
    rintro _ w55 ⟨r52, rfl, S53, m54⟩
    conv => whnf
    with_reducible refine IfB.split (fun h56 => ?_) (fun h56 => ?_)
    · conv => whnf
      refine SemK.build st_99 rfl ?_
      conv => whnf
      refine SemK.buildSlice mk_97 (vs := [Value.agg #[Value.string { data := #[] }, Value.int IntKind.i64 0, Value.int IntKind.i64 0, Value.int IntKind.i64 0, Value.string { data := #[] }]]) (by rfl) (by rfl) (by simp [Value.cells]) (by decide) ?_
      intro b57 w57 g57 l57 e57 B57
      have G57 := Grow.of_blk (n := 1) (enc := TBox.enc) (xs := [⟨{ data := #[] }, 0, 0, 0, { data := #[] }⟩]) TBox.enc_len B57 g57 rfl (by decide)
      conv => whnf
      refine SemK.appendArr0 (enc := TBox.enc) mk_97 TBox.enc_len ((G18.mod m54 (apart' G18.new S3.lt (Mod.size m15))).ext e57) (G57.own.arr TBox.enc_len) (by intro y _; simp [TBox.enc, cellish]) (by omega) (by omega) (Nat.le_trans (Nat.le_trans (Nat.le_trans (Below.size e17) (Mod.size m18)) (Mod.size m54)) (Below.size e57)) ?_
      intro a58 c58 w58 G58 m58 i58
      conv => whnf
      refine ⟨_, _, _, _, _, _, _, _, rfl, by simp_all, ?_, (((((G13.ext (Ext.mod_trans e17 m18 (blkIn_new G17.new))).mod m54 (apart' G13.new S3.lt (Nat.le_refl _))).ext e57).mod m58 (apart G13.lt G18.new (Nat.le_refl _))).own.arr TBox.enc_len), (G58.own.arr TBox.enc_len), (Ext.mod_trans (Ext.trans (Ext.mod_trans (Ext.mod_trans (Ext.trans (Ext.mod_trans e4 m15 (blkIn_new N2)) e17) m18 (fun k hk => Nat.le_trans (Below.size (Ext.mod_trans e4 m15 (blkIn_new N2))) (blkIn_new G17.new k hk))) m54 (blkIn_new N2)) e57) m58 (fun k hk => Nat.le_trans (Below.size (Ext.mod_trans e4 m15 (blkIn_new N2))) (blkIn_new G18.new k hk)))⟩
      · exact all_snoc (fun x hx => (q11 x hx).1) zero_ok
    · conv => whnf
      exact ⟨_, _, _, _, _, _, _, _, rfl, by simp_all, by simp_all, (((G13.ext (Ext.mod_trans e17 m18 (blkIn_new G17.new))).mod m54 (apart' G13.new S3.lt (Nat.le_refl _))).own.arr TBox.enc_len), ((G18.mod m54 (apart' G18.new S3.lt (Mod.size m15))).own.arr TBox.enc_len), (Ext.mod_trans (Ext.mod_trans (Ext.trans (Ext.mod_trans e4 m15 (blkIn_new N2)) e17) m18 (fun k hk => Nat.le_trans (Below.size (Ext.mod_trans e4 m15 (blkIn_new N2))) (blkIn_new G17.new k hk))) m54 (blkIn_new N2))⟩
theorem spec_DrawStoreBox {w : World} {a : Option Addr} {n c : Nat} {xs : List UInt8} (h : Arr eB 1 w a n xs) :
    Does Tryz.prog 52 [.slice a n c] w (fun v w' => ∃ a' n' c' xs x, v = .tuple #[.slice a' n' c', .agg ⟨TBox.enc x⟩] ∧ n' ≤ 42 ∧ n' ≤ c' ∧ x.ok ∧ (∀ x ∈ xs, x.ok) ∧ NewAt w.heap.size a' ∧ Own TBox.enc w' a' n' 99 xs ∧ Ext w w') := by
  refine Does.of_vc tabok Tryz.func52 rfl rfl rfl (by kernel_rfl) ?_; conv => whnf
  refine SemK.alloc (z := .agg #[.string { data := #[] }, .int .i64 0, .int .i64 0, .int .i64 0, .string { data := #[] }]) (by kernel_rfl) ?_
  intro b1 w1 g1 l1 e1 B1
  conv => whnf
  refine (spec_l00From (h.ext e1)).mono ?_
  rintro _ w6 ⟨a'2, rfl, N3, S4, e5⟩
  conv => whnf
  refine (spec_l26Bent S4 (by omega)).mono ?_
  rintro _ w18 ⟨a'7, n'8, c'9, xs10, rfl, q11, q12, q13, N14, O15, S16, m17⟩
  conv => whnf
  refine (spec_l26Name S16 (by omega)).mono ?_
  rintro _ w23 ⟨s19, rfl, q20, S21, m22⟩
  conv => whnf
  refine (spec_l26New S21 (by omega) q20).mono ?_
  rintro _ w29 ⟨x24, rfl, ⟨q25, q26⟩, S27, m28⟩
  conv => whnf
  refine SemK.alloc (z := .agg #[.string { data := #[] }, .int .i64 0, .int .i64 0, .int .i64 0, .string { data := #[] }]) (by kernel_rfl) ?_
  intro b30 w30 g30 l30 e30 B30
  conv => whnf
  refine SemK.storeAll (by kernel_rfl) B30 (vs := x24.enc) rfl rfl (by simp [TBox.enc, cellish]) ?_
  intro w31 c31 B31
  conv => whnf
  refine (spec_one ((S27.ext e30).chg c31 S4.lt g30 (Nat.le_trans (Nat.le_trans (Mod.size m17) (Mod.size m22)) (Mod.size m28))) (by omega) (by omega)).mono ?_
  rintro _ w35 ⟨r32, rfl, S33, m34⟩
  conv => whnf
  have hb1 : ¬ blkIn a'2 b1 := fun hk => by
    have := blkIn_new N3 b1 hk
    omega
  have hb30 : ¬ blkIn a'2 b30 := blkNew S4.lt g30 (Nat.le_trans (Nat.le_trans (Mod.size m17) (Mod.size m22)) (Mod.size m28))
  have z5 := e5.size
  have z17 := m17.size
  have z22 := m22.size
  have z28 := m28.size
  have X7 := ((((((B1.ext e5).mod m17 hb1).mod m22 hb1).mod m28 hb1).ext e30).mod c31.but (show ¬ b1 = b30 by omega)).mod m34 hb1
  have Z7 := B31.mod m34 hb30
  have O7 := ((((O15.mod m22 (apart' N14 S4.lt (Nat.le_refl _))).mod m28 (apart' N14 S4.lt (Nat.le_refl _))).ext e30).mod c31.but (apartChg O15.lt g30 (Nat.le_trans (Mod.size m22) (Mod.size m28)))).mod m34 (apart' N14 S4.lt (Nat.le_refl _))
  with_reducible refine IfB.nsplit (fun h36 => ?_) (fun h36 => ?_)
  · conv => whnf
    refine SemK.store1 (by kernel_rfl) (B31.mod m34 (blkNew S4.lt g30 (Nat.le_trans (Nat.le_trans (Mod.size m17) (Mod.size m22)) (Mod.size m28)))) (k := 4) (Nat.le_of_ble_eq_true rfl) rfl ?_
    intro w37 c37 B37
    have B37 : Blk w37 b30 (TBox.enc { x24 with lent := { data := #[] } }) _ := B37
    have okc : TBox.ok { x24 with lent := { data := #[] } } := ⟨q25.1, q25.2.1, q25.2.2.1, q25.2.2.2.1, Nat.zero_le _⟩
    have X8 := X7.mod c37.but (show ¬ b1 = b30 by omega)
    have O8 := O7.mod c37.but (apartChg O15.lt g30 (Nat.le_trans (Mod.size m22) (Mod.size m28)))
    conv => whnf
    refine (spec_one (S33.chg c37 S4.lt g30 (Nat.le_trans (Nat.le_trans (Mod.size m17) (Mod.size m22)) (Mod.size m28))) (by omega) (by omega)).mono ?_
    rintro _ w41 ⟨r38, rfl, S39, m40⟩
    conv => whnf
    with_reducible refine IfB.split (fun h42 => ?_) (fun h42 => ?_)
    · conv => whnf
      have X9 := X8.mod m40 hb1
      have O9 := O8.mod m40 (apart' N14 S4.lt (Nat.le_refl _))
      have Z9 := B37.mod m40 hb30
      refine (spec_l26Spoil S39 (by omega) (own_one Z9) (i := 0) rfl okc rfl (apart' (NewAt.some g30) S4.lt (Nat.le_trans (Nat.le_trans (Mod.size m17) (Mod.size m22)) (Mod.size m28)))).mono ?_
      rintro _ w60 ⟨wm, y, rfl, hyo, mA, mB, O60, S60⟩
      have O60 : Own TBox.enc w60 (some ⟨b30, 0, none⟩) 1 _ [y] := O60
      have C60 := own_one' O60
      have nb1 : ¬ blkIn (some ⟨b30, 0, none⟩) b1 := by
        rintro ⟨x, hx, he⟩
        cases hx
        have he : b1 = b30 := he
        omega
      have X10 := (X9.mod mA hb1).mod mB nb1
      have O10 := (O9.mod mA (apart' N14 S4.lt (Nat.le_refl _))).mod mB (fun x hx hk => by
        obtain ⟨z, hz, he⟩ := hk
        cases hz
        have := O15.lt x hx
        have he : x.block = b30 := he
        omega)
      have E60 : Ext w w60 := (Ext.mod_trans (Ext.mod_trans (Ext.mod_trans (Ext.but_trans (Ext.mod_trans (Ext.but_trans (Ext.trans (Ext.mod_trans (Ext.mod_trans (Ext.mod_trans (Ext.trans e1 e5) m17 (src_new N3 e1)) m22 (src_new N3 e1)) m28 (src_new N3 e1)) e30) c31.but (by have := e1.size; omega)) m34 (src_new N3 e1)) c37.but (by have := e1.size; omega)) m40 (src_new N3 e1)) mA (src_new N3 e1)) mB (fun k hk => by obtain ⟨z, hz, he⟩ := hk; cases hz; have he : k = b30 := he; have := e1.size; omega))
      conv => whnf
      refine DrawK.writes tabok mixed [(0, .any), (2, .any), (1, .held), (3, .write)] (by kernel_rfl) (by kernel_rfl) ?_
      conv => whnf
      intro w61 e61
      conv => whnf
      refine DSemK.loadAgg (n := 5) (by kernel_rfl) C60 rfl ?_
      conv => whnf
      refine SemK.storeAll (by kernel_rfl) (X10.ext e61) (vs := y.enc) rfl rfl (by simp [TBox.enc, cellish]) ?_
      intro w62 c62 B62
      conv => whnf
      refine CellK.of (run_loadAgg (n := 5) (by kernel_rfl) rfl B62.cells) ?_
      conv => whnf
      exact ⟨_, _, _, xs10, y, rfl, by omega, by omega, hyo, q13, N14.mono (by have := e1.size; omega), (O10.ext e61).mod c62.but (apartChg' N14 (by omega)), Ext.but_trans (Ext.trans E60 e61) c62.but g1⟩
    · conv => whnf
      have X9 := X8.mod m40 hb1
      have O9 := O8.mod m40 (apart' N14 S4.lt (Nat.le_refl _))
      have Z9 := B37.mod m40 hb30
      have E60 : Ext w w41 := (Ext.mod_trans (Ext.but_trans (Ext.mod_trans (Ext.but_trans (Ext.trans (Ext.mod_trans (Ext.mod_trans (Ext.mod_trans (Ext.trans e1 e5) m17 (src_new N3 e1)) m22 (src_new N3 e1)) m28 (src_new N3 e1)) e30) c31.but (by have := e1.size; omega)) m34 (src_new N3 e1)) c37.but (by have := e1.size; omega)) m40 (src_new N3 e1))
      refine DrawK.writes tabok mixed [(0, .any), (2, .any), (1, .held), (3, .write)] (by kernel_rfl) (by kernel_rfl) ?_
      conv => whnf
      intro w61 e61
      conv => whnf
      refine DSemK.loadAgg (n := 5) (by kernel_rfl) Z9.cells rfl ?_
      conv => whnf
      refine SemK.storeAll (by kernel_rfl) (X9.ext e61) (vs := TBox.enc { x24 with lent := { data := #[] } }) rfl rfl (by simp [TBox.enc, cellish]) ?_
      intro w62 c62 B62
      conv => whnf
      refine CellK.of (run_loadAgg (n := 5) (by kernel_rfl) rfl B62.cells) ?_
      conv => whnf
      exact ⟨_, _, _, xs10, { x24 with lent := { data := #[] } }, rfl, by omega, by omega, okc, q13, N14.mono (by have := e1.size; omega), (O9.ext e61).mod c62.but (apartChg' N14 (by omega)), Ext.but_trans (Ext.trans E60 e61) c62.but g1⟩
  · conv => whnf
    refine (spec_one S33 (by omega) (by omega)).mono ?_
    rintro _ w56 ⟨r53, rfl, S54, m55⟩
    conv => whnf
    with_reducible refine IfB.split (fun h57 => ?_) (fun h57 => ?_)
    · conv => whnf
      have X9 := X7.mod m55 hb1
      have O9 := O7.mod m55 (apart' N14 S4.lt (Nat.le_refl _))
      have Z9 := Z7.mod m55 hb30
      refine (spec_l26Spoil S54 (by omega) (own_one Z9) (i := 0) rfl q25 rfl (apart' (NewAt.some g30) S4.lt (Nat.le_trans (Nat.le_trans (Mod.size m17) (Mod.size m22)) (Mod.size m28)))).mono ?_
      rintro _ w60 ⟨wm, y, rfl, hyo, mA, mB, O60, S60⟩
      have O60 : Own TBox.enc w60 (some ⟨b30, 0, none⟩) 1 _ [y] := O60
      have C60 := own_one' O60
      have nb1 : ¬ blkIn (some ⟨b30, 0, none⟩) b1 := by
        rintro ⟨x, hx, he⟩
        cases hx
        have he : b1 = b30 := he
        omega
      have X10 := (X9.mod mA hb1).mod mB nb1
      have O10 := (O9.mod mA (apart' N14 S4.lt (Nat.le_refl _))).mod mB (fun x hx hk => by
        obtain ⟨z, hz, he⟩ := hk
        cases hz
        have := O15.lt x hx
        have he : x.block = b30 := he
        omega)
      have E60 : Ext w w60 := (Ext.mod_trans (Ext.mod_trans (Ext.mod_trans (Ext.mod_trans (Ext.but_trans (Ext.trans (Ext.mod_trans (Ext.mod_trans (Ext.mod_trans (Ext.trans e1 e5) m17 (src_new N3 e1)) m22 (src_new N3 e1)) m28 (src_new N3 e1)) e30) c31.but (by have := e1.size; omega)) m34 (src_new N3 e1)) m55 (src_new N3 e1)) mA (src_new N3 e1)) mB (fun k hk => by obtain ⟨z, hz, he⟩ := hk; cases hz; have he : k = b30 := he; have := e1.size; omega))
      conv => whnf
      refine DrawK.writes tabok mixed [(0, .any), (2, .any), (1, .held), (3, .write)] (by kernel_rfl) (by kernel_rfl) ?_
      conv => whnf
      intro w61 e61
      conv => whnf
      refine DSemK.loadAgg (n := 5) (by kernel_rfl) C60 rfl ?_
      conv => whnf
      refine SemK.storeAll (by kernel_rfl) (X10.ext e61) (vs := y.enc) rfl rfl (by simp [TBox.enc, cellish]) ?_
      intro w62 c62 B62
      conv => whnf
      refine CellK.of (run_loadAgg (n := 5) (by kernel_rfl) rfl B62.cells) ?_
      conv => whnf
      exact ⟨_, _, _, xs10, y, rfl, by omega, by omega, hyo, q13, N14.mono (by have := e1.size; omega), (O10.ext e61).mod c62.but (apartChg' N14 (by omega)), Ext.but_trans (Ext.trans E60 e61) c62.but g1⟩
    · conv => whnf
      refine DrawK.writes tabok mixed [(0, .any), (2, .any), (1, .held), (3, .write)] (by kernel_rfl) (by kernel_rfl) ?_
      conv => whnf
      intro w66 e66
      conv => whnf
      refine DSemK.loadAgg (n := 5) (by kernel_rfl) ((B31.mod m34 (blkNew S4.lt g30 (Nat.le_trans (Nat.le_trans (Mod.size m17) (Mod.size m22)) (Mod.size m28)))).mod m55 (blkNew S4.lt g30 (Nat.le_trans (Nat.le_trans (Mod.size m17) (Mod.size m22)) (Mod.size m28)))).cells rfl ?_
      conv => whnf
      refine SemK.storeAll (by kernel_rfl) (B1.ext (Ext.trans (Ext.mod_trans (Ext.mod_trans (Ext.but_trans (Ext.trans (Ext.mod_trans (Ext.mod_trans (Ext.mod_trans e5 m17 (blkIn_new N3)) m22 (blkIn_new N3)) m28 (blkIn_new N3)) e30) c31.but (Nat.le_trans (Below.size (Ext.mod_trans (Ext.mod_trans (Ext.mod_trans e5 m17 (blkIn_new N3)) m22 (blkIn_new N3)) m28 (blkIn_new N3))) g30)) m34 (blkIn_new N3)) m55 (blkIn_new N3)) e66)) (vs := x24.enc) rfl rfl (by simp [TBox.enc, cellish]) ?_
      intro w67 c67 B67
      conv => whnf
      refine CellK.of (run_loadAgg (n := 5) (by kernel_rfl) rfl B67.cells) ?_
      conv => whnf
      exact ⟨_, _, _, _, _, rfl, by omega, by omega, by omega, by omega, (N14.mono (Below.size (Ext.trans e1 e5))), (((((((O15.mod m22 (apart' N14 S4.lt (Nat.le_refl _))).mod m28 (apart' N14 S4.lt (Nat.le_refl _))).ext (Ext.but_trans e30 c31.but g30)).mod m34 (apart' N14 S4.lt (Nat.le_refl _))).mod m55 (apart' N14 S4.lt (Nat.le_refl _))).ext e66).mod c67.but (apartChg' N14 l1 (Below.size e5))), (Ext.but_trans (Ext.trans (Ext.mod_trans (Ext.mod_trans (Ext.but_trans (Ext.trans (Ext.mod_trans (Ext.mod_trans (Ext.mod_trans (Ext.trans e1 e5) m17 (fun k hk => Nat.le_trans (Below.size e1) (blkIn_new N3 k hk))) m22 (fun k hk => Nat.le_trans (Below.size e1) (blkIn_new N3 k hk))) m28 (fun k hk => Nat.le_trans (Below.size e1) (blkIn_new N3 k hk))) e30) c31.but (Nat.le_trans (Below.size (Ext.mod_trans (Ext.mod_trans (Ext.mod_trans (Ext.trans e1 e5) m17 (fun k hk => Nat.le_trans (Below.size e1) (blkIn_new N3 k hk))) m22 (fun k hk => Nat.le_trans (Below.size e1) (blkIn_new N3 k hk))) m28 (fun k hk => Nat.le_trans (Below.size e1) (blkIn_new N3 k hk)))) g30)) m34 (fun k hk => Nat.le_trans (Below.size e1) (blkIn_new N3 k hk))) m55 (fun k hk => Nat.le_trans (Below.size e1) (blkIn_new N3 k hk))) e66) c67.but g1)⟩
end Go.Proofs.YtkjmbjedbmblmaaGreatDoor
