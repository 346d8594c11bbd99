/- Contracts of functions of the given program, of the reference and of the laws: each says what a call returns, for all arguments that meet the premises that the theorem itself names. -/
import Derived.Test.YtpjeooikjcdbpaaDoorFTotal
import Derived.Test.YtpjeooikjcdbpaaDoorInts
import Derived.Test.YtpjeooikjcdbpaaDoorVcNest
namespace Go.M
open Go Go.Vc
instance : EncL eI 1 := ⟨eI_len⟩
instance : EncL eS 1 := ⟨eS_len⟩
instance : EncL TTotal.enc 2 := ⟨TTotal.enc_len⟩
abbrev RCard : Rd (List Int) := RA eI 1
abbrev RDeck : Rd (List (List Int)) := RS RCard
abbrev RTots : Rd (List TTotal) := RA TTotal.enc 2
abbrev OCard : Ow (List Int) := OA eI
abbrev ODeck : Ow (List (List Int)) := OS OCard
abbrev OTots : Ow (List TTotal) := OA TTotal.enc
def mkCard (k : Nat) (x : List Int) : List Int := marksI k x.length
def wtCard (x : List Int) : Nat := x.length
def mkDeck (k : Nat) (x : List (List Int)) : List (List Int) := mkAll mkCard wtCard k x
def wtDeck (x : List (List Int)) : Nat := wtAll wtCard x
def mkTots (k : Nat) (x : List TTotal) : List TTotal := TTotal.marks k x.length
def wtTots (x : List TTotal) : Nat := 2 * x.length
end Go.M
namespace Go.Proofs.YtpjeooikjcdbpaaDoor
open Go Go.RowKit Go.Vc Go.M
theorem st_7 : stInfo Tryd.prog 7 = some ([.int .i64 0, .int .i64 0, .bool false, .int .u8 0], [(0, 1), (1, 1), (2, 1), (3, 1)]) := by kernel_rfl
theorem st_8 : stInfo Tryd.prog 8 = some ([.int .i64 0, .int .i64 0, .bool false, .int .u8 0], [(0, 1), (1, 1), (2, 1), (3, 1)]) := by kernel_rfl
theorem st_13 : stInfo Tryd.prog 13 = some ([.string { data := #[] }, .int .u64 0], [(0, 1), (1, 1)]) := by kernel_rfl
theorem st_14 : stInfo Tryd.prog 14 = some ([.string { data := #[] }, .int .u64 0], [(0, 1), (1, 1)]) := by kernel_rfl
theorem st_18 : stInfo Tryd.prog 18 = some ([.pointer none], [(0, 1)]) := by kernel_rfl
theorem st_19 : stInfo Tryd.prog 19 = some ([.pointer none], [(0, 1)]) := by kernel_rfl
theorem st_54 : stInfo Tryd.prog 54 = some ([.int .i64 0, .int .i64 0, .int .i64 0, .string { data := #[] }], [(0, 1), (1, 1), (2, 1), (3, 1)]) := by kernel_rfl
theorem st_55 : stInfo Tryd.prog 55 = some ([.int .i64 0, .int .i64 0, .int .i64 0, .string { data := #[] }], [(0, 1), (1, 1), (2, 1), (3, 1)]) := by kernel_rfl
theorem st_65 : stInfo Tryd.prog 65 = some ([.string { data := #[] }, .int .i64 0, .int .i64 0, .int .i64 0, .string { data := #[] }], [(0, 1), (1, 1), (2, 1), (3, 1), (4, 1)]) := by kernel_rfl
theorem st_66 : stInfo Tryd.prog 66 = some ([.string { data := #[] }, .int .i64 0, .int .i64 0, .int .i64 0, .string { data := #[] }], [(0, 1), (1, 1), (2, 1), (3, 1), (4, 1)]) := by kernel_rfl
theorem st_77 : stInfo Tryd.prog 77 = some ([.string { data := #[] }, .int .i64 0, .int .i64 0, .int .i64 0], [(0, 1), (1, 1), (2, 1), (3, 1)]) := by kernel_rfl
theorem st_78 : stInfo Tryd.prog 78 = some ([.string { data := #[] }, .int .i64 0, .int .i64 0, .int .i64 0], [(0, 1), (1, 1), (2, 1), (3, 1)]) := by kernel_rfl
theorem st_110 : stInfo Tryd.prog 110 = some ([.slice none 0 0, .int .i64 0, .int .u64 0], [(0, 1), (1, 1), (2, 1)]) := by kernel_rfl
theorem st_111 : stInfo Tryd.prog 111 = some ([.slice none 0 0, .int .i64 0, .int .u64 0], [(0, 1), (1, 1), (2, 1)]) := by kernel_rfl
theorem st_120 : stInfo Tryd.prog 120 = some ([.pointer none, .slice none 0 0], [(0, 1), (1, 1)]) := by kernel_rfl
theorem st_121 : stInfo Tryd.prog 121 = some ([.pointer none, .slice none 0 0], [(0, 1), (1, 1)]) := by kernel_rfl
theorem st_164 : stInfo Tryd.prog 164 = some ([.string { data := #[] }, .string { data := #[] }, .nilIface], [(0, 1), (1, 1), (2, 1)]) := by kernel_rfl
theorem st_165 : stInfo Tryd.prog 165 = some ([.string { data := #[] }, .string { data := #[] }, .nilIface], [(0, 1), (1, 1), (2, 1)]) := by kernel_rfl
theorem st_176 : stInfo Tryd.prog 176 = some ([.int .u8 0, .int .u8 0], [(0, 1), (1, 1)]) := by kernel_rfl
theorem st_177 : stInfo Tryd.prog 177 = some ([.int .u8 0, .int .u8 0], [(0, 1), (1, 1)]) := by kernel_rfl
theorem st_180 : stInfo Tryd.prog 180 = some ([.string { data := #[] }], [(0, 1)]) := by kernel_rfl
theorem st_181 : stInfo Tryd.prog 181 = some ([.string { data := #[] }], [(0, 1)]) := by kernel_rfl
theorem st_186 : stInfo Tryd.prog 186 = some ([.pointer none, .pointer none, .pointer none, .string { data := #[] }], [(0, 1), (1, 1), (2, 1), (3, 1)]) := by kernel_rfl
theorem st_187 : stInfo Tryd.prog 187 = some ([.pointer none, .pointer none, .pointer none, .string { data := #[] }], [(0, 1), (1, 1), (2, 1), (3, 1)]) := by kernel_rfl
theorem st_189 : stInfo Tryd.prog 189 = some ([], [(0, 0)]) := by kernel_rfl
theorem st_190 : stInfo Tryd.prog 190 = some ([], [(0, 0)]) := by kernel_rfl
theorem st_197 : stInfo Tryd.prog 197 = some ([.int .u64 0, .int .u64 0, .int .u32 0, .int .u8 0, .int .u8 0, .int .u8 0, .int .u8 0, .nilFunc, .pointer none, .int .i32 0, .int .i32 0], [(0, 1), (1, 1), (2, 1), (3, 1), (4, 1), (5, 1), (6, 1), (7, 1), (8, 1), (9, 1), (10, 1)]) := by kernel_rfl
theorem st_198 : stInfo Tryd.prog 198 = some ([.int .u64 0, .int .u64 0, .int .u32 0, .int .u8 0, .int .u8 0, .int .u8 0, .int .u8 0, .nilFunc, .pointer none, .int .i32 0, .int .i32 0], [(0, 1), (1, 1), (2, 1), (3, 1), (4, 1), (5, 1), (6, 1), (7, 1), (8, 1), (9, 1), (10, 1)]) := by kernel_rfl
theorem laws_eqInt64SS {w : World} {a a' : Option Addr} {n n' c c' : Nat} {xs ys : List (List Int)} (h : ArrS RCard w a n xs) (h' : ArrS RCard w a' n' ys) :
    Does Tryd.prog 12 [.slice a n c, .slice a' n' c'] w (fun v w' => v = .bool (decide (xs = ys)) ∧ Ext w w') := by
  have hn := h.len
  have hn' := h'.len
  have hm := h.le
  obtain ⟨hs, hV, hE⟩ := h
  obtain ⟨hs', hV', hE'⟩ := h'
  have hl := hV.len
  have hl' := hV'.len
  refine Does.of_vc tabok Tryd.func12 rfl rfl rfl (by kernel_rfl) ?_; conv => whnf
  with_reducible refine IfB.ndec (fun h1 => ?_) (fun h1 => ?_)
  · conv => whnf
    exact ⟨by rw [decide_eq_false (fun e => by subst e; omega)], Ext.refl _⟩
  · conv => whnf
    refine LoopK.rule [0, 1, 5] (fun (k : Nat) vs w' => vs = [.slice a n c, .slice a' n' c', .int .i64 k] ∧ k ≤ n ∧ xs.take k = ys.take k ∧ Ext w w') (fun k => n - k) tab tabok (by kernel_rfl) 0 ⟨rfl, by omega, by simp, Ext.refl _⟩ ?_
    rintro k g _ w' ⟨rfl, hk, hall, hX⟩
    conv => whnf
    with_reducible refine IfB.dec (fun h2 => ?_) (fun h2 => ?_)
    · conv => whnf
      refine DrawK.held tabok mixed [(0, false), (1, false), (2, false), (3, false), (4, false), (5, true), (6, true), (7, true), (8, true), (9, true)] (by kernel_rfl) (by kernel_rfl) ?_
      conv => whnf
      intro w3 e3
      conv => whnf
      obtain ⟨x4, hx4⟩ : ∃ x, hs[k]? = some x := get_of_lt (by omega)
      obtain ⟨y4, hy4, R4⟩ := hE.get hx4
      have A4 := R4.1
      have n4 := R4.2
      refine DSemK.index (by kernel_rfl) (hV.ext hX) k rfl hx4 ?_
      intro b5 o5 _ hb5
      conv => whnf
      refine DSemK.load0 (by kernel_rfl) hb5 rfl ?_
      conv => whnf
      obtain ⟨x6, hx6⟩ : ∃ x, hs'[k]? = some x := get_of_lt (by omega)
      obtain ⟨y6, hy6, R6⟩ := hE'.get hx6
      have A6 := R6.1
      have n6 := R6.2
      refine SemK.index (by kernel_rfl) (hV'.ext (Ext.trans hX e3)) k rfl hx6 ?_
      intro b7 o7 _ hb7
      conv => whnf
      refine ⟨e3, ?_⟩
      conv => whnf
      refine SemK.load0 (by kernel_rfl) hb7 rfl ?_
      conv => whnf
      refine ⟨e3, ?_⟩
      conv => whnf
      refine (laws_eqInt64S (A4.ext (Ext.trans hX e3)) (A6.ext (Ext.trans hX e3))).mono ?_
      rintro _ w9 ⟨rfl, e8⟩
      conv => whnf
      refine ⟨(Ext.trans e3 e8), ?_⟩
      conv => whnf
      with_reducible refine IfB.ndec (fun h10 => ?_) (fun h10 => ?_)
      · conv => whnf
        refine ⟨?_, (Ext.trans (Ext.trans hX e3) e8)⟩
        · exact congrArg Value.bool (decide_eq_false (fun e => by subst e; rw [hy4] at hy6; cases hy6; simp at h10)).symm
      · conv => whnf
        refine SemK.add (((k + 1 : Nat) : Int)) (by omega) (by omega) (by omega) ?_
        conv => whnf
        exact ⟨k + 1, by omega, rfl, by omega, by simp [List.take_add_one, *], (Ext.trans (Ext.trans hX e3) e8)⟩
    · conv => whnf
      have kn11 : k = n := by omega
      have tk12 : List.take k xs = xs := List.take_of_length_le (by omega)
      have tk13 : List.take k hs = hs := List.take_of_length_le (by omega)
      refine ⟨?_, hX⟩
      · exact congrArg Value.bool (decide_eq_true (by rw [← List.take_of_length_le (show xs.length ≤ k by omega), hall, List.take_of_length_le (by omega)])).symm
theorem laws_markInt64SS {w : World} {a : Option Addr} {n c t k0 : Nat} {xs : List (List Int)} {fp : List Nat} (h : OwnS OCard w a n t xs fp) (hnd : fp.Nodup) (hk0 : k0 + wtAll wtCard xs ≤ 1000000000) :
    Does Tryd.prog 13 [.slice a n c, .int .i64 k0] w (fun v w' => v = .int .i64 ((k0 + wtAll wtCard xs : Nat) : Int) ∧ Mod (fun j => j ∈ fp) w w' ∧ OwnS OCard w' a n t (mkAll mkCard wtCard k0 xs) fp) := by
  have hn := h.len
  have hm := h.arr.le
  refine Does.of_vc tabok Tryd.func13 rfl rfl rfl (by kernel_rfl) ?_; conv => whnf
  refine LoopK.rule [0, 1, 5] (fun (k : Nat) vs w' => vs = [.slice a n c, .int .i64 ((k0 + wtAll wtCard (xs.take k) : Nat) : Int), .int .i64 k] ∧ k ≤ n ∧ Mod (fun j => j ∈ fp) w w' ∧ OwnS OCard w' a n t (mkAll mkCard wtCard k0 (xs.take k) ++ xs.drop k) fp) (fun k => n - k) tab tabok (by kernel_rfl) 0 ⟨by simp [wtAll]; exact ⟨rfl, rfl, rfl⟩, by omega, Vc.Mod.refl _ _, by simpa [mkAll] using h⟩ ?_
  rintro k g _ w' ⟨rfl, hk, hM, hO⟩
  conv => whnf
  with_reducible refine IfB.dec (fun h4 => ?_) (fun h4 => ?_)
  · obtain ⟨x, hx⟩ : ∃ x, xs[k]? = some x := get_of_lt (by omega)
    have hwt := wtAll_succ (wt := wtCard) hx
    have hwl := wtAll_le (wt := wtCard) hx
    obtain ⟨b, d, f, rfl, hbfp, hb, hEl, hfn, hfs, hbf, hset⟩ := hO.focus hnd (mark_get k0 hx)
    obtain ⟨⟨t', hown⟩, hdc, hfe⟩ := hEl
    have hdl : x.length = d.n := hown.1
    have hwx : wtCard x = d.n := by unfold wtCard; omega
    conv => whnf
    refine SemK.indexOwn (sz := 1) (by kernel_rfl) k rfl (by omega) ?_
    conv => whnf
    refine SemK.load1 (by kernel_rfl) hb (k := 0) rfl ?_
    conv => whnf
    refine (laws_markInt64S (k0 := k0 + wtAll wtCard (xs.take k)) hown (by omega)).mono ?_
    rintro _ w2 ⟨rfl, m2, O2⟩
    conv => whnf
    refine SemK.add (((k + 1 : Nat) : Int)) (by omega) (by omega) (by omega) ?_
    conv => whnf
    have M2 : Mod (fun j => j ∈ f) w' w2 := m2.mono fun j hj => by rw [hfe]; exact mem_blks.2 hj
    have O3 := hset w2 (mkCard (k0 + wtAll wtCard (xs.take k)) x) M2 ⟨⟨t', by unfold mkCard; rw [hdl]; exact O2⟩, hdc, hfe⟩
    rw [mark_set k0 hx] at O3
    exact ⟨k + 1, by omega, by rw [show k0 + wtAll wtCard (xs.take (k + 1)) = k0 + wtAll wtCard (xs.take k) + d.n by rw [hwt, hwx]; omega]; rfl, by omega, hM.trans (M2.mono hfs), O3⟩
  · conv => whnf
    have : k = n := by omega
    subst this
    rw [List.take_of_length_le (by omega), List.drop_eq_nil_of_le (by omega), List.append_nil] at hO
    rw [List.take_of_length_le (by omega)]
    exact ⟨rfl, hM, hO⟩
end Go.Proofs.YtpjeooikjcdbpaaDoor
