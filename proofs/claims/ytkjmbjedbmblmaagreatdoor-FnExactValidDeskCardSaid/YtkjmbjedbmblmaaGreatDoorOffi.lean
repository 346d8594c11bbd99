/- Contracts of functions of the given program, of the reference and of the laws: each says what a call returns, for all arguments that meet the premises that the theorem itself names. -/
import Derived.Test.YtkjmbjedbmblmaaGreatDoorCardW
import Derived.Test.YtkjmbjedbmblmaaGreatDoorOffice
import Derived.Test.YtkjmbjedbmblmaaGreatDoorDeskTo
import Derived.Test.YtkjmbjedbmblmaaGreatDoorJourA
import Derived.Test.YtkjmbjedbmblmaaGreatDoorTable
import Derived.Test.YtkjmbjedbmblmaaGreatDoorDec
namespace Go.M
open Go Go.Vc
def offWidth : List (List (List Int)) → Nat
  | [] => 20
  | [] :: l => offWidth l
  | (c :: _) :: _ => c.length
theorem offWidth_at : ∀ {X : List (List (List Int))} {k : Nat} {x : List (List Int)} {c : List Int}, (∀ i y, i < k → X[i]? = some y → y = []) → X[k]? = some x → x[0]? = some c → offWidth X = c.length
  | [], _, _, _, _, h, _ => by simp at h
  | y :: l, 0, x, c, _, h, hc => by
    simp at h
    subst h
    cases y with
    | nil => simp at hc
    | cons z m => simp at hc; subst hc; rfl
  | y :: l, k + 1, x, c, he, h, hc => by
    have hy : y = [] := he 0 y (by omega) rfl
    subst hy
    show offWidth l = c.length
    exact offWidth_at (k := k) (fun i z hi hz => he (i + 1) z (by omega) (by simpa using hz)) (by simpa using h) hc
theorem offWidth_none : ∀ {X : List (List (List Int))}, (∀ i y, i < X.length → X[i]? = some y → y = []) → offWidth X = 20
  | [], _ => rfl
  | y :: l, he => by
    have hy : y = [] := he 0 y (by simp) rfl
    subst hy
    exact offWidth_none (X := l) (fun i z hi hz => he (i + 1) z (by simp; omega) (by simpa using hz))
def trayB (X : List (List (List Int))) (d : List (List Int)) : Bool := deckB d && (decide (d = []) || decide ((d.headD []).length = offWidth X))
def officeB (X : List (List (List Int))) (m : Nat) : Bool := X.all (trayB X) && decide (X.length = 6) && decide (m ≤ 20)
theorem tray_deck {X : List (List (List Int))} {d : List (List Int)} (h : deckB d = false) : trayB X d = false := by simp [trayB, h]
theorem tray_nil {X : List (List (List Int))} : trayB X [] = true := by simp [trayB, deckB]
theorem tray_at {X : List (List (List Int))} {d : List (List Int)} {c : List Int} (h : deckB d = true) (hc : d[0]? = some c) : trayB X d = decide (c.length = offWidth X) := by
  cases d with
  | nil => simp at hc
  | cons z m => simp at hc; subst hc; simp [trayB, h]
theorem office_bad {X : List (List (List Int))} {m k : Nat} {d : List (List Int)} (hd : X[k]? = some d) (h : trayB X d = false) : officeB X m = false := by
  have : X.all (trayB X) = false := by
    rw [List.all_eq_false]
    exact ⟨d, List.mem_of_getElem? hd, by simp [h]⟩
  simp [officeB, this]
theorem office_all {X : List (List (List Int))} {m : Nat} (h : ∀ i d, i < X.length → X[i]? = some d → trayB X d = true) : officeB X m = (decide (X.length = 6) && decide (m ≤ 20)) := by
  have : X.all (trayB X) = true := by
    rw [List.all_eq_true]
    intro d hd
    obtain ⟨i, hi⟩ := List.mem_iff_getElem?.1 hd
    exact h i d (List.getElem?_eq_some_iff.1 hi).1 hi
  simp [officeB, this]
theorem office_six {X : List (List (List Int))} {m : Nat} (h : ¬ X.length = 6) : officeB X m = false := by simp [officeB, h]
theorem office_many {X : List (List (List Int))} {m : Nat} (h : ¬ m ≤ 20) : officeB X m = false := by simp [officeB, h]
theorem office_mem {X : List (List (List Int))} {m : Nat} (h : officeB X m = true) : X.length = 6 ∧ ∀ d ∈ X, deckB d = true := by
  simp only [officeB, Bool.and_eq_true, decide_eq_true_eq, List.all_eq_true] at h
  refine ⟨h.1.2, fun d hd => ?_⟩
  have := h.1.1 d hd
  simp only [trayB, Bool.and_eq_true] at this
  exact this.1
def countsOf (X : List (List (List Int))) : List Int := X.map fun d => (d.length : Int)
def deskB (X : List (List (List Int))) (m : Nat) (s : ByteArray) : Bool := officeB X m && decide (journalCode s = 0)
theorem notes_code (s : ByteArray) : (notesOfM s).2.2 = journalCode s := by
  unfold notesOfM
  split
  · rename_i h; exact h.symm
  · rfl
theorem countsOf_get {X : List (List (List Int))} {k : Nat} {d : List (List Int)} (h : X[k]? = some d) : (countsOf X)[k]? = some (d.length : Int) := by simp [countsOf, h]
theorem countsOf_len (X : List (List (List Int))) : (countsOf X).length = X.length := by simp [countsOf]
theorem countsOf_ok {X : List (List (List Int))} (h : ∀ d ∈ X, d.length ≤ 40) : ∀ x ∈ countsOf X, i64ok x := by
  intro x hx
  obtain ⟨d, hd, rfl⟩ := List.mem_map.1 hx
  have := h d hd
  unfold i64ok
  omega
def deskTextM (X : List (List (List Int))) (m : Nat) (s : ByteArray) : ByteArray := if deskB X m s = true then lineS (countsOf X) else ⟨#[]⟩
theorem deskText_no {X : List (List (List Int))} {m : Nat} {s : ByteArray} (h : deskB X m s = false) : deskTextM X m s = ⟨#[]⟩ := by simp [deskTextM, h]
theorem deskText_yes {X : List (List (List Int))} {m : Nat} {s : ByteArray} (h : deskB X m s = true) : deskTextM X m s = lineS (countsOf X) := by simp [deskTextM, h]
end Go.M
namespace Go.Proofs.YtkjmbjedbmblmaaGreatDoor
open Go Go.Shelf Go.Proofs Go.RowKit Go.Vc Go.M
theorem impl_officeColumns {w : World} {a b : Option Addr} {n c m d : Nat} {X : List (List (List Int))} (h : ArrS RDeck w a n X) : Does Tryz.prog 243 [.agg #[.slice a n c, .slice b m d]] w (fun v w' => v = .int .i64 (offWidth X) ∧ Ext w w') := by
  have hn := h.len
  have hm := h.le
  obtain ⟨gs, hV, hE⟩ := h
  have hl := hV.len
  refine Does.of_vc tabok Tryz.func243 rfl rfl rfl (by kernel_rfl) ?_; conv => whnf
  refine SemK.box ?_
  intro b1 w1 g1 l1 e1 B1
  conv => whnf
  refine SemK.load1 (by kernel_rfl) B1.cells (k := 0) rfl ?_
  conv => whnf
  refine LoopK.rule [6, 7, 8] (fun (k : Nat) vs w' => vs = [.slice a n c, .int .i64 n, .int .i64 k] ∧ k ≤ n ∧ (∀ i y, i < k → X[i]? = some y → y = []) ∧ Ext w w') (fun k => n - k) tab tabok (by kernel_rfl) 0 ⟨rfl, by omega, fun i y hi => by omega, e1⟩ ?_
  rintro k g _ w20 ⟨rfl, hk, hall, hX⟩
  rcases Nat.lt_or_ge k n with hkn | hkn
  · obtain ⟨g1, hg1⟩ := get_of_lt (l := gs) (k := k) (by omega)
    obtain ⟨x, hx, R⟩ := hE.get hg1
    have hxl := R.1.len
    rcases Nat.eq_zero_or_pos g1.n with h0 | h0
    · have hxe : x = [] := List.eq_nil_of_length_eq_zero (by omega)
      have hnext : ∀ i y, i < k + 1 → X[i]? = some y → y = [] := fun i y hi hy => by
        by_cases e : i = k
        · subst e; rw [hx] at hy; cases hy; exact hxe
        · exact hall i y (by omega) hy
      conv => whnf
      refine IfB.yes (by omega) ?_
      conv => whnf
      refine SemK.index (by kernel_rfl) (hV.ext hX) k rfl hg1 ?_
      intro b22 o22 ha22 hb22
      conv => whnf
      refine SemK.load0 (by kernel_rfl) hb22 rfl ?_
      conv => whnf
      refine IfB.no (by omega) ?_
      conv => whnf
      refine SemK.add (((k + 1 : Nat) : Int)) (by omega) (by omega) (by omega) ?_
      conv => whnf
      exact ⟨k + 1, by omega, rfl, by omega, by omega, hX⟩
    · obtain ⟨hs2, hV2, hE2⟩ := R.1
      have hl2 := hV2.len
      have hn2 := hE2.1
      obtain ⟨d2, hd2⟩ := get_of_lt (l := hs2) (k := 0) (by omega)
      obtain ⟨c2, hc2, R2⟩ := hE2.get hd2
      have hcl := R2.1.len
      rw [offWidth_at hall hx hc2]
      conv => whnf
      refine IfB.yes (by omega) ?_
      conv => whnf
      refine SemK.index (by kernel_rfl) (hV.ext hX) k rfl hg1 ?_
      intro b22 o22 ha22 hb22
      conv => whnf
      refine SemK.load0 (by kernel_rfl) hb22 rfl ?_
      conv => whnf
      refine IfB.yes (by omega) ?_
      conv => whnf
      refine SemK.index (by kernel_rfl) (hV2.ext hX) 0 rfl hd2 ?_
      intro b24 o24 ha24 hb24
      conv => whnf
      refine SemK.loadAgg (n := 1) (by kernel_rfl) hb24 rfl ?_
      conv => whnf
      refine (impl_columns _).mono ?_
      rintro _ w26 ⟨rfl, e25⟩
      conv => whnf
      exact ⟨by simp only [*], (Ext.trans hX e25)⟩
  · rw [offWidth_none (fun i y hi => hall i y (by omega))]
    conv => whnf
    refine IfB.no (by omega) ?_
    conv => whnf
    exact ⟨rfl, hX⟩
theorem spec_l15Width {w : World} {a b : Option Addr} {n c m d q : Nat} {s : ByteArray} {X : List (List (List Int))} (h : ArrS RDeck w a n X) (hc : Cells w q 0 [.slice a n c, .slice b m d, .string s]) : Does Tryz.prog 305 [.pointer (some ⟨q, 0, none⟩)] w (fun v w' => v = .int .i64 (offWidth X) ∧ Ext w w') := by
  have hn := h.len
  have hm := h.le
  obtain ⟨gs, hV, hE⟩ := h
  have hl := hV.len
  refine Does.of_vc tabok Tryz.func305 rfl rfl rfl (by kernel_rfl) ?_; conv => whnf
  refine LoopK.rule [0, 3] (fun (k : Nat) vs w' => vs = [.pointer (some ⟨q, 0, none⟩), .int .i64 k] ∧ k ≤ n ∧ (∀ i y, i < k → X[i]? = some y → y = []) ∧ Ext w w') (fun k => n - k) tab tabok (by kernel_rfl) 0 ⟨rfl, by omega, fun i y hi => by omega, Ext.refl _⟩ ?_
  rintro k g _ w20 ⟨rfl, hk, hall, hX⟩
  rcases Nat.lt_or_ge k n with hkn | hkn
  · obtain ⟨g1, hg1⟩ := get_of_lt (l := gs) (k := k) (by omega)
    obtain ⟨x, hx, R⟩ := hE.get hg1
    have hxl := R.1.len
    rcases Nat.eq_zero_or_pos g1.n with h0 | h0
    · have hxe : x = [] := List.eq_nil_of_length_eq_zero (by omega)
      have hnext : ∀ i y, i < k + 1 → X[i]? = some y → y = [] := fun i y hi hy => by
        by_cases e : i = k
        · subst e; rw [hx] at hy; cases hy; exact hxe
        · exact hall i y (by omega) hy
      conv => whnf
      refine SemK.load1 (by kernel_rfl) (hc.ext hX) (k := 0) rfl ?_
      conv => whnf
      refine IfB.yes (by omega) ?_
      conv => whnf
      refine SemK.load1 (by kernel_rfl) (hc.ext hX) (k := 0) rfl ?_
      conv => whnf
      refine SemK.index (by kernel_rfl) (hV.ext hX) k rfl hg1 ?_
      intro b22 o22 ha22 hb22
      conv => whnf
      refine SemK.load0 (by kernel_rfl) hb22 rfl ?_
      conv => whnf
      refine IfB.no (by omega) ?_
      conv => whnf
      refine SemK.add (((k + 1 : Nat) : Int)) (by omega) (by omega) (by omega) ?_
      conv => whnf
      exact ⟨k + 1, by omega, rfl, by omega, by omega, hX⟩
    · obtain ⟨hs2, hV2, hE2⟩ := R.1
      have hl2 := hV2.len
      have hn2 := hE2.1
      obtain ⟨d2, hd2⟩ := get_of_lt (l := hs2) (k := 0) (by omega)
      obtain ⟨c2, hc2, R2⟩ := hE2.get hd2
      have hcl := R2.1.len
      rw [offWidth_at hall hx hc2]
      conv => whnf
      refine SemK.load1 (by kernel_rfl) (hc.ext hX) (k := 0) rfl ?_
      conv => whnf
      refine IfB.yes (by omega) ?_
      conv => whnf
      refine SemK.load1 (by kernel_rfl) (hc.ext hX) (k := 0) rfl ?_
      conv => whnf
      refine SemK.index (by kernel_rfl) (hV.ext hX) k rfl hg1 ?_
      intro b22 o22 ha22 hb22
      conv => whnf
      refine SemK.load0 (by kernel_rfl) hb22 rfl ?_
      conv => whnf
      refine IfB.yes (by omega) ?_
      conv => whnf
      refine SemK.load1 (by kernel_rfl) (hc.ext hX) (k := 0) rfl ?_
      conv => whnf
      refine SemK.index (by kernel_rfl) (hV.ext hX) k rfl hg1 ?_
      intro b24 o24 ha24 hb24
      conv => whnf
      refine SemK.load0 (by kernel_rfl) hb24 rfl ?_
      conv => whnf
      refine SemK.index (by kernel_rfl) (hV2.ext hX) 0 rfl hd2 ?_
      intro b26 o26 ha26 hb26
      conv => whnf
      refine SemK.load1 (by kernel_rfl) hb26 (k := 0) rfl ?_
      conv => whnf
      exact ⟨by simp only [*], hX⟩
  · rw [offWidth_none (fun i y hi => hall i y (by omega))]
    conv => whnf
    refine SemK.load1 (by kernel_rfl) (hc.ext hX) (k := 0) rfl ?_
    conv => whnf
    refine IfB.no (by omega) ?_
    conv => whnf
    exact ⟨rfl, hX⟩
theorem impl_ValidOffice {w : World} {a b : Option Addr} {n c m d : Nat} {X : List (List (List Int))} (h : ArrS RDeck w a n X) : Does Tryz.prog 145 [.agg #[.slice a n c, .slice b m d]] w (fun v w' => v = .bool (officeB X m) ∧ Ext w w') := by
  have hn := h.len
  have hm := h.le
  have hW := fun u (e : Ext w u) => impl_officeColumns (c := c) (b := b) (m := m) (d := d) (h.ext e)
  have h' := h
  obtain ⟨gs, hV, hE⟩ := h'
  have hl := hV.len
  by_cases h6 : X.length = 6
  · by_cases h20 : m ≤ 20
    · refine Does.of_vc tabok Tryz.func145 rfl rfl rfl (by kernel_rfl) ?_; conv => whnf
      refine SemK.box ?_
      intro b21 w21 g21 l21 e21 B21
      conv => whnf
      refine SemK.load1 (by kernel_rfl) B21.cells (k := 0) rfl ?_
      conv => whnf
      with_reducible refine IfB.ndec (fun h22 => ?_) (fun h22 => ?_)
      · conv => whnf
        exact ⟨by omega, e21⟩
      · conv => whnf
        refine SemK.load1 (by kernel_rfl) B21.cells (k := 1) rfl ?_
        conv => whnf
        refine IfB.no (by omega) ?_
        conv => whnf
        refine SemK.load1 (by kernel_rfl) B21.cells (k := 0) rfl ?_
        conv => whnf
        refine LoopK.rule [1, 16, 17, 18] (fun (k : Nat) vs w' => vs = [.pointer (some ⟨b21, 0, none⟩), .slice a n c, .int .i64 n, .int .i64 k] ∧ k ≤ n ∧ (∀ i y, i < k → X[i]? = some y → trayB X y = true) ∧ Ext w21 w') (fun k => n - k) tab tabok (by kernel_rfl) 0 ⟨rfl, by omega, fun i y hi => by omega, Ext.refl _⟩ ?_
        rintro k g _ w30 ⟨rfl, hk, hall, hX0⟩
        have hX := Ext.trans e21 hX0
        rcases Nat.lt_or_ge k n with hkn | hkn
        · obtain ⟨g1, hg1⟩ := get_of_lt (l := gs) (k := k) (by omega)
          obtain ⟨x, hx, R⟩ := hE.get hg1
          have hxl := R.1.len
          have hD := fun u (e : Ext w u) => impl_ValidDeck (c := g1.c) (R.1.ext e)
          cases hz1 : deckB x
          · rw [hz1] at hD
            rw [office_bad hx (tray_deck hz1)]
            conv => whnf
            refine IfB.yes (by omega) ?_
            conv => whnf
            refine SemK.index (by kernel_rfl) (hV.ext hX) k rfl hg1 ?_
            intro b32 o32 ha32 hb32
            conv => whnf
            refine SemK.load0 (by kernel_rfl) hb32 rfl ?_
            conv => whnf
            refine DrawK.held tabok mixed [(0, true), (1, true), (2, true), (3, true), (4, true), (5, true), (6, true), (7, true), (8, false), (9, false), (10, false), (12, false), (11, true), (13, true), (14, true), (15, true), (16, true)] (by kernel_rfl) (by kernel_rfl) ?_
            conv => whnf
            intro w33 e33
            conv => whnf
            refine (hD _ (Ext.trans hX e33)).mono ?_
            rintro _ w35 ⟨rfl, e34⟩
            conv => whnf
            refine ⟨(Ext.trans e33 e34), ?_⟩
            conv => whnf
            exact ⟨rfl, (Ext.trans (Ext.trans hX e33) e34)⟩
          · rw [hz1] at hD
            rcases Nat.eq_zero_or_pos g1.n with h0 | h0
            · have hxe : x = [] := List.eq_nil_of_length_eq_zero (by omega)
              have hnext : ∀ i y, i < k + 1 → X[i]? = some y → trayB X y = true := fun i y hi hy => by
                by_cases e : i = k
                · subst e; rw [hx] at hy; cases hy; rw [hxe]; exact tray_nil
                · exact hall i y (by omega) hy
              conv => whnf
              refine IfB.yes (by omega) ?_
              conv => whnf
              refine SemK.index (by kernel_rfl) (hV.ext hX) k rfl hg1 ?_
              intro b32 o32 ha32 hb32
              conv => whnf
              refine SemK.load0 (by kernel_rfl) hb32 rfl ?_
              conv => whnf
              refine DrawK.held tabok mixed [(0, true), (1, true), (2, true), (3, true), (4, true), (5, true), (6, true), (7, true), (8, false), (9, false), (10, false), (12, false), (11, true), (13, true), (14, true), (15, true), (16, true)] (by kernel_rfl) (by kernel_rfl) ?_
              conv => whnf
              intro w33 e33
              conv => whnf
              refine (hD _ (Ext.trans hX e33)).mono ?_
              rintro _ w35 ⟨rfl, e34⟩
              conv => whnf
              refine ⟨(Ext.trans e33 e34), ?_⟩
              conv => whnf
              refine ⟨(Ext.trans e33 e34), ?_⟩
              conv => whnf
              refine IfB.no (by omega) ?_
              conv => whnf
              refine SemK.add (((k + 1 : Nat) : Int)) (by omega) (by omega) (by omega) ?_
              conv => whnf
              exact ⟨k + 1, by omega, rfl, by omega, by omega, (Ext.trans (Ext.trans hX0 e33) e34)⟩
            · obtain ⟨hs2, hV2, hE2⟩ := R.1
              have hl2 := hV2.len
              have hn2 := hE2.1
              obtain ⟨d2, hd2⟩ := get_of_lt (l := hs2) (k := 0) (by omega)
              obtain ⟨c2, hc2, R2⟩ := hE2.get hd2
              have hcl := R2.1.len
              have hta := tray_at (X := X) hz1 hc2
              by_cases hwd : c2.length = offWidth X
              · rw [decide_eq_true hwd] at hta
                have hnext : ∀ i y, i < k + 1 → X[i]? = some y → trayB X y = true := fun i y hi hy => by
                  by_cases e : i = k
                  · subst e; rw [hx] at hy; cases hy; exact hta
                  · exact hall i y (by omega) hy
                conv => whnf
                refine IfB.yes (by omega) ?_
                conv => whnf
                refine SemK.index (by kernel_rfl) (hV.ext hX) k rfl hg1 ?_
                intro b32 o32 ha32 hb32
                conv => whnf
                refine SemK.load0 (by kernel_rfl) hb32 rfl ?_
                conv => whnf
                refine DrawK.held tabok mixed [(0, true), (1, true), (2, true), (3, true), (4, true), (5, true), (6, true), (7, true), (8, false), (9, false), (10, false), (12, false), (11, true), (13, true), (14, true), (15, true), (16, true)] (by kernel_rfl) (by kernel_rfl) ?_
                conv => whnf
                intro w33 e33
                conv => whnf
                refine (hD _ (Ext.trans hX e33)).mono ?_
                rintro _ w35 ⟨rfl, e34⟩
                conv => whnf
                refine ⟨(Ext.trans e33 e34), ?_⟩
                conv => whnf
                refine ⟨(Ext.trans e33 e34), ?_⟩
                conv => whnf
                refine IfB.yes (by omega) ?_
                conv => whnf
                refine DSemK.index (by kernel_rfl) (hV2.ext hX) 0 rfl hd2 ?_
                intro b37 o37 ha37 hb37
                conv => whnf
                refine DSemK.loadAgg (n := 1) (by kernel_rfl) hb37 rfl ?_
                conv => whnf
                refine DSemK.loadAgg (n := 2) (by kernel_rfl) (B21.ext hX0).cells rfl ?_
                conv => whnf
                refine (impl_columns _).mono ?_
                rintro _ w39 ⟨rfl, e38⟩
                conv => whnf
                refine ⟨(Ext.trans (Ext.trans e33 e34) e38), ?_⟩
                conv => whnf
                refine (hW _ (Ext.trans (Ext.trans (Ext.trans hX e33) e34) e38)).mono ?_
                rintro _ w41 ⟨rfl, e40⟩
                conv => whnf
                refine ⟨(Ext.trans (Ext.trans (Ext.trans e33 e34) e38) e40), ?_⟩
                conv => whnf
                with_reducible refine IfB.ndec (fun h42 => ?_) (fun h42 => ?_)
                · conv => whnf
                  exact ⟨by omega, (Ext.trans (Ext.trans (Ext.trans (Ext.trans hX e33) e34) e38) e40)⟩
                · conv => whnf
                  refine SemK.add (((k + 1 : Nat) : Int)) (by omega) (by omega) (by omega) ?_
                  conv => whnf
                  exact ⟨k + 1, by omega, rfl, by omega, by omega, (Ext.trans (Ext.trans (Ext.trans (Ext.trans hX0 e33) e34) e38) e40)⟩
              · rw [decide_eq_false hwd] at hta
                rw [office_bad hx hta]
                conv => whnf
                refine IfB.yes (by omega) ?_
                conv => whnf
                refine SemK.index (by kernel_rfl) (hV.ext hX) k rfl hg1 ?_
                intro b32 o32 ha32 hb32
                conv => whnf
                refine SemK.load0 (by kernel_rfl) hb32 rfl ?_
                conv => whnf
                refine DrawK.held tabok mixed [(0, true), (1, true), (2, true), (3, true), (4, true), (5, true), (6, true), (7, true), (8, false), (9, false), (10, false), (12, false), (11, true), (13, true), (14, true), (15, true), (16, true)] (by kernel_rfl) (by kernel_rfl) ?_
                conv => whnf
                intro w33 e33
                conv => whnf
                refine (hD _ (Ext.trans hX e33)).mono ?_
                rintro _ w35 ⟨rfl, e34⟩
                conv => whnf
                refine ⟨(Ext.trans e33 e34), ?_⟩
                conv => whnf
                refine ⟨(Ext.trans e33 e34), ?_⟩
                conv => whnf
                refine IfB.yes (by omega) ?_
                conv => whnf
                refine DSemK.index (by kernel_rfl) (hV2.ext hX) 0 rfl hd2 ?_
                intro b37 o37 ha37 hb37
                conv => whnf
                refine DSemK.loadAgg (n := 1) (by kernel_rfl) hb37 rfl ?_
                conv => whnf
                refine DSemK.loadAgg (n := 2) (by kernel_rfl) (B21.ext hX0).cells rfl ?_
                conv => whnf
                refine (impl_columns _).mono ?_
                rintro _ w39 ⟨rfl, e38⟩
                conv => whnf
                refine ⟨(Ext.trans (Ext.trans e33 e34) e38), ?_⟩
                conv => whnf
                refine (hW _ (Ext.trans (Ext.trans (Ext.trans hX e33) e34) e38)).mono ?_
                rintro _ w41 ⟨rfl, e40⟩
                conv => whnf
                refine ⟨(Ext.trans (Ext.trans (Ext.trans e33 e34) e38) e40), ?_⟩
                conv => whnf
                with_reducible refine IfB.ndec (fun h42 => ?_) (fun h42 => ?_)
                · conv => whnf
                  exact ⟨rfl, (Ext.trans (Ext.trans (Ext.trans (Ext.trans hX e33) e34) e38) e40)⟩
                · conv => whnf
                  refine SemK.add (((k + 1 : Nat) : Int)) (by omega) (by omega) (by omega) ?_
                  conv => whnf
                  exact ⟨k + 1, by omega, rfl, by omega, by omega, (Ext.trans (Ext.trans (Ext.trans (Ext.trans hX0 e33) e34) e38) e40)⟩
        · rw [office_all (fun i y hi => hall i y (by omega))]
          conv => whnf
          refine IfB.no (by omega) ?_
          conv => whnf
          exact ⟨by simp_all, hX⟩
    · rw [office_many h20]
      refine Does.of_vc tabok Tryz.func145 rfl rfl rfl (by kernel_rfl) ?_; conv => whnf
      refine SemK.box ?_
      intro b21 w21 g21 l21 e21 B21
      conv => whnf
      refine SemK.load1 (by kernel_rfl) B21.cells (k := 0) rfl ?_
      conv => whnf
      with_reducible refine IfB.ndec (fun h22 => ?_) (fun h22 => ?_)
      · conv => whnf
        exact ⟨rfl, e21⟩
      · conv => whnf
        refine SemK.load1 (by kernel_rfl) B21.cells (k := 1) rfl ?_
        conv => whnf
        refine IfB.yes (by omega) ?_
        conv => whnf
        exact ⟨rfl, e21⟩
  · rw [office_six h6]
    refine Does.of_vc tabok Tryz.func145 rfl rfl rfl (by kernel_rfl) ?_; conv => whnf
    refine SemK.box ?_
    intro b7 w7 g7 l7 e7 B7
    conv => whnf
    refine SemK.load1 (by kernel_rfl) B7.cells (k := 0) rfl ?_
    conv => whnf
    with_reducible refine IfB.ndec (fun h8 => ?_) (fun h8 => ?_)
    · conv => whnf
      exact ⟨rfl, e7⟩
    · conv => whnf
      refine SemK.load1 (by kernel_rfl) B7.cells (k := 1) rfl ?_
      conv => whnf
      refine IfB.yes (by omega) ?_
      conv => whnf
      exact ⟨rfl, e7⟩
theorem spec_l15Ok {w : World} {a b : Option Addr} {n c m d q : Nat} {s : ByteArray} {X : List (List (List Int))} (h : ArrS RDeck w a n X) (hc : Cells w q 0 [.slice a n c, .slice b m d, .string s]) : Does Tryz.prog 239 [.pointer (some ⟨q, 0, none⟩)] w (fun v w' => v = .bool (officeB X m) ∧ Ext w w') := by
  have hn := h.len
  have hm := h.le
  have hW := fun u (e : Ext w u) => spec_l15Width (h.ext e) (hc.ext e)
  have h' := h
  obtain ⟨gs, hV, hE⟩ := h'
  have hl := hV.len
  refine Does.of_vc tabok Tryz.func239 rfl rfl rfl (by kernel_rfl) ?_; conv => whnf
  refine LoopK.rule [0, 3] (fun (k : Nat) vs w' => vs = [.pointer (some ⟨q, 0, none⟩), .int .i64 k] ∧ k ≤ n ∧ (∀ i y, i < k → X[i]? = some y → trayB X y = true) ∧ Ext w w') (fun k => n - k) tab tabok (by kernel_rfl) 0 ⟨rfl, by omega, fun i y hi => by omega, Ext.refl _⟩ ?_
  rintro k g _ w30 ⟨rfl, hk, hall, hX⟩
  rcases Nat.lt_or_ge k n with hkn | hkn
  · obtain ⟨g1, hg1⟩ := get_of_lt (l := gs) (k := k) (by omega)
    obtain ⟨x, hx, R⟩ := hE.get hg1
    have hxl := R.1.len
    have hD := fun u (e : Ext w u) => spec_l02Deck (c := g1.c) (R.1.ext e)
    cases hz1 : deckB x
    · rw [hz1] at hD
      rw [office_bad hx (tray_deck hz1)]
      conv => whnf
      refine SemK.load1 (by kernel_rfl) (hc.ext hX) (k := 0) rfl ?_
      conv => whnf
      refine IfB.yes (by omega) ?_
      conv => whnf
      refine DrawK.held tabok mixed [(0, false), (1, false), (2, false), (3, false), (4, true), (5, true), (6, true), (7, true), (8, true), (9, true), (10, false), (11, false), (12, false), (13, false), (14, true), (15, true), (16, true), (17, true), (18, true), (19, true), (20, false), (21, false), (22, false), (23, false), (24, false), (25, false), (26, false), (27, false), (28, false), (29, false), (30, false), (31, true), (32, true), (33, true), (34, true), (35, true)] (by kernel_rfl) (by kernel_rfl) ?_
      conv => whnf
      intro w31 e31
      conv => whnf
      refine DSemK.load1 (by kernel_rfl) (hc.ext hX) (k := 0) rfl ?_
      conv => whnf
      refine SemK.index (by kernel_rfl) (hV.ext (Ext.trans hX e31)) k rfl hg1 ?_
      intro b33 o33 ha33 hb33
      conv => whnf
      refine ⟨e31, ?_⟩
      conv => whnf
      refine SemK.load0 (by kernel_rfl) hb33 rfl ?_
      conv => whnf
      refine ⟨e31, ?_⟩
      conv => whnf
      refine (hD _ (Ext.trans hX e31)).mono ?_
      rintro _ w35 ⟨rfl, e34⟩
      conv => whnf
      refine ⟨(Ext.trans e31 e34), ?_⟩
      conv => whnf
      exact ⟨rfl, (Ext.trans (Ext.trans hX e31) e34)⟩
    · rw [hz1] at hD
      rcases Nat.eq_zero_or_pos g1.n with h0 | h0
      · have hxe : x = [] := List.eq_nil_of_length_eq_zero (by omega)
        have hnext : ∀ i y, i < k + 1 → X[i]? = some y → trayB X y = true := fun i y hi hy => by
          by_cases e : i = k
          · subst e; rw [hx] at hy; cases hy; rw [hxe]; exact tray_nil
          · exact hall i y (by omega) hy
        conv => whnf
        refine SemK.load1 (by kernel_rfl) (hc.ext hX) (k := 0) rfl ?_
        conv => whnf
        refine IfB.yes (by omega) ?_
        conv => whnf
        refine DrawK.held tabok mixed [(0, false), (1, false), (2, false), (3, false), (4, true), (5, true), (6, true), (7, true), (8, true), (9, true), (10, false), (11, false), (12, false), (13, false), (14, true), (15, true), (16, true), (17, true), (18, true), (19, true), (20, false), (21, false), (22, false), (23, false), (24, false), (25, false), (26, false), (27, false), (28, false), (29, false), (30, false), (31, true), (32, true), (33, true), (34, true), (35, true)] (by kernel_rfl) (by kernel_rfl) ?_
        conv => whnf
        intro w31 e31
        conv => whnf
        refine DSemK.load1 (by kernel_rfl) (hc.ext hX) (k := 0) rfl ?_
        conv => whnf
        refine SemK.index (by kernel_rfl) (hV.ext (Ext.trans hX e31)) k rfl hg1 ?_
        intro b33 o33 ha33 hb33
        conv => whnf
        refine ⟨e31, ?_⟩
        conv => whnf
        refine SemK.load0 (by kernel_rfl) hb33 rfl ?_
        conv => whnf
        refine ⟨e31, ?_⟩
        conv => whnf
        refine (hD _ (Ext.trans hX e31)).mono ?_
        rintro _ w35 ⟨rfl, e34⟩
        conv => whnf
        refine ⟨(Ext.trans e31 e34), ?_⟩
        conv => whnf
        refine DSemK.load1 (by kernel_rfl) (hc.ext hX) (k := 0) rfl ?_
        conv => whnf
        refine SemK.index (by kernel_rfl) (hV.ext (Ext.trans (Ext.trans hX e31) e34)) k rfl hg1 ?_
        intro b37 o37 ha37 hb37
        conv => whnf
        refine ⟨(Ext.trans e31 e34), ?_⟩
        conv => whnf
        refine SemK.load0 (by kernel_rfl) hb37 rfl ?_
        conv => whnf
        refine ⟨(Ext.trans e31 e34), ?_⟩
        conv => whnf
        refine ⟨(Ext.trans e31 e34), ?_⟩
        conv => whnf
        refine IfB.no (by omega) ?_
        conv => whnf
        refine SemK.add (((k + 1 : Nat) : Int)) (by omega) (by omega) (by omega) ?_
        conv => whnf
        exact ⟨k + 1, by omega, rfl, by omega, by omega, (Ext.trans (Ext.trans hX e31) e34)⟩
      · obtain ⟨hs2, hV2, hE2⟩ := R.1
        have hl2 := hV2.len
        have hn2 := hE2.1
        obtain ⟨d2, hd2⟩ := get_of_lt (l := hs2) (k := 0) (by omega)
        obtain ⟨c2, hc2, R2⟩ := hE2.get hd2
        have hcl := R2.1.len
        have hta := tray_at (X := X) hz1 hc2
        by_cases hwd : c2.length = offWidth X
        · rw [decide_eq_true hwd] at hta
          have hnext : ∀ i y, i < k + 1 → X[i]? = some y → trayB X y = true := fun i y hi hy => by
            by_cases e : i = k
            · subst e; rw [hx] at hy; cases hy; exact hta
            · exact hall i y (by omega) hy
          conv => whnf
          refine SemK.load1 (by kernel_rfl) (hc.ext hX) (k := 0) rfl ?_
          conv => whnf
          refine IfB.yes (by omega) ?_
          conv => whnf
          refine DrawK.held tabok mixed [(0, false), (1, false), (2, false), (3, false), (4, true), (5, true), (6, true), (7, true), (8, true), (9, true), (10, false), (11, false), (12, false), (13, false), (14, true), (15, true), (16, true), (17, true), (18, true), (19, true), (20, false), (21, false), (22, false), (23, false), (24, false), (25, false), (26, false), (27, false), (28, false), (29, false), (30, false), (31, true), (32, true), (33, true), (34, true), (35, true)] (by kernel_rfl) (by kernel_rfl) ?_
          conv => whnf
          intro w31 e31
          conv => whnf
          refine DSemK.load1 (by kernel_rfl) (hc.ext hX) (k := 0) rfl ?_
          conv => whnf
          refine SemK.index (by kernel_rfl) (hV.ext (Ext.trans hX e31)) k rfl hg1 ?_
          intro b33 o33 ha33 hb33
          conv => whnf
          refine ⟨e31, ?_⟩
          conv => whnf
          refine SemK.load0 (by kernel_rfl) hb33 rfl ?_
          conv => whnf
          refine ⟨e31, ?_⟩
          conv => whnf
          refine (hD _ (Ext.trans hX e31)).mono ?_
          rintro _ w35 ⟨rfl, e34⟩
          conv => whnf
          refine ⟨(Ext.trans e31 e34), ?_⟩
          conv => whnf
          refine DSemK.load1 (by kernel_rfl) (hc.ext hX) (k := 0) rfl ?_
          conv => whnf
          refine SemK.index (by kernel_rfl) (hV.ext (Ext.trans (Ext.trans hX e31) e34)) k rfl hg1 ?_
          intro b37 o37 ha37 hb37
          conv => whnf
          refine ⟨(Ext.trans e31 e34), ?_⟩
          conv => whnf
          refine SemK.load0 (by kernel_rfl) hb37 rfl ?_
          conv => whnf
          refine ⟨(Ext.trans e31 e34), ?_⟩
          conv => whnf
          refine ⟨(Ext.trans e31 e34), ?_⟩
          conv => whnf
          refine IfB.yes (by omega) ?_
          conv => whnf
          refine DSemK.load1 (by kernel_rfl) (hc.ext hX) (k := 0) rfl ?_
          conv => whnf
          refine DSemK.index (by kernel_rfl) (hV.ext hX) k rfl hg1 ?_
          intro b39 o39 ha39 hb39
          conv => whnf
          refine DSemK.load0 (by kernel_rfl) hb39 rfl ?_
          conv => whnf
          refine DSemK.index (by kernel_rfl) (hV2.ext hX) 0 rfl hd2 ?_
          intro b41 o41 ha41 hb41
          conv => whnf
          refine DSemK.load1 (by kernel_rfl) hb41 (k := 0) rfl ?_
          conv => whnf
          refine (hW _ (Ext.trans (Ext.trans hX e31) e34)).mono ?_
          rintro _ w43 ⟨rfl, e42⟩
          conv => whnf
          refine ⟨(Ext.trans (Ext.trans e31 e34) e42), ?_⟩
          conv => whnf
          with_reducible refine IfB.ndec (fun h44 => ?_) (fun h44 => ?_)
          · conv => whnf
            exact ⟨by omega, (Ext.trans (Ext.trans (Ext.trans hX e31) e34) e42)⟩
          · conv => whnf
            refine SemK.add (((k + 1 : Nat) : Int)) (by omega) (by omega) (by omega) ?_
            conv => whnf
            exact ⟨k + 1, by omega, rfl, by omega, by omega, (Ext.trans (Ext.trans (Ext.trans hX e31) e34) e42)⟩
        · rw [decide_eq_false hwd] at hta
          rw [office_bad hx hta]
          conv => whnf
          refine SemK.load1 (by kernel_rfl) (hc.ext hX) (k := 0) rfl ?_
          conv => whnf
          refine IfB.yes (by omega) ?_
          conv => whnf
          refine DrawK.held tabok mixed [(0, false), (1, false), (2, false), (3, false), (4, true), (5, true), (6, true), (7, true), (8, true), (9, true), (10, false), (11, false), (12, false), (13, false), (14, true), (15, true), (16, true), (17, true), (18, true), (19, true), (20, false), (21, false), (22, false), (23, false), (24, false), (25, false), (26, false), (27, false), (28, false), (29, false), (30, false), (31, true), (32, true), (33, true), (34, true), (35, true)] (by kernel_rfl) (by kernel_rfl) ?_
          conv => whnf
          intro w31 e31
          conv => whnf
          refine DSemK.load1 (by kernel_rfl) (hc.ext hX) (k := 0) rfl ?_
          conv => whnf
          refine SemK.index (by kernel_rfl) (hV.ext (Ext.trans hX e31)) k rfl hg1 ?_
          intro b33 o33 ha33 hb33
          conv => whnf
          refine ⟨e31, ?_⟩
          conv => whnf
          refine SemK.load0 (by kernel_rfl) hb33 rfl ?_
          conv => whnf
          refine ⟨e31, ?_⟩
          conv => whnf
          refine (hD _ (Ext.trans hX e31)).mono ?_
          rintro _ w35 ⟨rfl, e34⟩
          conv => whnf
          refine ⟨(Ext.trans e31 e34), ?_⟩
          conv => whnf
          refine DSemK.load1 (by kernel_rfl) (hc.ext hX) (k := 0) rfl ?_
          conv => whnf
          refine SemK.index (by kernel_rfl) (hV.ext (Ext.trans (Ext.trans hX e31) e34)) k rfl hg1 ?_
          intro b37 o37 ha37 hb37
          conv => whnf
          refine ⟨(Ext.trans e31 e34), ?_⟩
          conv => whnf
          refine SemK.load0 (by kernel_rfl) hb37 rfl ?_
          conv => whnf
          refine ⟨(Ext.trans e31 e34), ?_⟩
          conv => whnf
          refine ⟨(Ext.trans e31 e34), ?_⟩
          conv => whnf
          refine IfB.yes (by omega) ?_
          conv => whnf
          refine DSemK.load1 (by kernel_rfl) (hc.ext hX) (k := 0) rfl ?_
          conv => whnf
          refine DSemK.index (by kernel_rfl) (hV.ext hX) k rfl hg1 ?_
          intro b39 o39 ha39 hb39
          conv => whnf
          refine DSemK.load0 (by kernel_rfl) hb39 rfl ?_
          conv => whnf
          refine DSemK.index (by kernel_rfl) (hV2.ext hX) 0 rfl hd2 ?_
          intro b41 o41 ha41 hb41
          conv => whnf
          refine DSemK.load1 (by kernel_rfl) hb41 (k := 0) rfl ?_
          conv => whnf
          refine (hW _ (Ext.trans (Ext.trans hX e31) e34)).mono ?_
          rintro _ w43 ⟨rfl, e42⟩
          conv => whnf
          refine ⟨(Ext.trans (Ext.trans e31 e34) e42), ?_⟩
          conv => whnf
          with_reducible refine IfB.ndec (fun h44 => ?_) (fun h44 => ?_)
          · conv => whnf
            exact ⟨rfl, (Ext.trans (Ext.trans (Ext.trans hX e31) e34) e42)⟩
          · conv => whnf
            refine SemK.add (((k + 1 : Nat) : Int)) (by omega) (by omega) (by omega) ?_
            conv => whnf
            exact ⟨k + 1, by omega, rfl, by omega, by omega, (Ext.trans (Ext.trans (Ext.trans hX e31) e34) e42)⟩
  · rw [office_all (fun i y hi => hall i y (by omega))]
    conv => whnf
    refine SemK.load1 (by kernel_rfl) (hc.ext hX) (k := 0) rfl ?_
    conv => whnf
    refine IfB.no (by omega) ?_
    conv => whnf
    refine SemK.load1 (by kernel_rfl) (hc.ext hX) (k := 0) rfl ?_
    conv => whnf
    with_reducible refine IfB.dec (fun h31 => ?_) (fun h31 => ?_)
    · conv => whnf
      refine SemK.load1 (by kernel_rfl) (hc.ext hX) (k := 1) rfl ?_
      conv => whnf
      refine ⟨?_, hX⟩
      · rw [decide_eq_true (show X.length = 6 by omega), Bool.true_and]; congr 1; exact decide_eq_decide.2 (by omega)
    · conv => whnf
      refine ⟨?_, hX⟩
      · rw [decide_eq_false (show ¬ X.length = 6 by omega), Bool.false_and]
theorem laws_szDeskS {w : World} {a b : Option Addr} {n c m d : Nat} {s : ByteArray} {X : List (List (List Int))} {Y : List (List TTotal)} (h : DeskR w a n b m X Y) (hok : ∀ x ∈ Y, okTots x) (hs : strok s) {left : Int} (h0 : 0 ≤ left) (hl : left ≤ 1048576) :
    Does Tryz.prog 45 [.agg #[.slice a n c, .slice b m d, .string s], .int .i64 left] w (fun v w' => ∃ r : Int, v = .int .i64 r ∧ (r = -1 ∨ (0 ≤ r ∧ r ≤ left ∧ FSz FDeck X ∧ FSz FTots Y ∧ s.size ≤ 1048576)) ∧ Ext w w') := by
  obtain ⟨h1, h2⟩ := h
  simp only [strok] at hs
  refine Does.of_vc tabok Tryz.func45 rfl rfl rfl (by kernel_rfl) ?_; conv => whnf
  refine SemK.box ?_
  intro b0 w1 _ _ e1 hB
  conv => whnf
  refine SemK.loadAggAt (n := 2) (by kernel_rfl) (k := 0) hB.cells rfl ?_
  conv => whnf
  refine (laws_szOffice (h1.ext e1) (h2.ext e1) hok h0 hl).mono ?_
  rintro _ w2 ⟨r, rfl, hr, e2⟩
  conv => whnf
  with_reducible refine IfB.dec (fun p0 => ?_) (fun p0 => ?_)
  · conv => whnf
    exact ⟨-1, rfl, .inl rfl, Ext.trans e1 e2⟩
  · conv => whnf
    refine SemK.load1 (by kernel_rfl) (hB.ext e2).cells (k := 2) rfl ?_
    conv => whnf
    have e12 := Ext.trans e1 e2
    rcases hr with hr | ⟨p, q, t1, t2⟩
    · omega
    refine SemK.sub (r - s.size) rfl (by omega) (by omega) ?_
    conv => whnf
    with_reducible refine IfB.dec (fun p1 => ?_) (fun p1 => ?_)
    · conv => whnf
      exact ⟨-1, rfl, .inl rfl, e12⟩
    · conv => whnf
      exact ⟨r - s.size, rfl, .inr ⟨by omega, by omega, t1, t2, by omega⟩, e12⟩
theorem impl_sizeCardO (a : Option Addr) (n c : Nat) (w : World) : Does Tryz.prog 103 [.slice a n c] w (fun v w' => v = .int .i64 n ∧ w = w') := by
  refine Does.of_vc tabok Tryz.func103 rfl rfl rfl (by kernel_rfl) ?_; conv => whnf
  exact ⟨rfl, rfl⟩
theorem impl_ValidDesk {w : World} {a b : Option Addr} {n c m d : Nat} {s : ByteArray} {X : List (List (List Int))} (h : ArrS RDeck w a n X) (hs : s.size ≤ 1048576) (hT : Pow w) (hEr : Errs w) (hM : MaxL w) : Does Tryz.prog 48 [.agg #[.slice a n c, .slice b m d, .string s]] w (fun v w' => v = .bool (deskB X m s) ∧ Ext w w') := by
  have hO := fun u (e : Ext w u) => impl_ValidOffice (c := c) (b := b) (m := m) (d := d) (h.ext e)
  have hN : ∀ u, Ext w u → Does Tryz.prog 144 [.string s] u (fun v w' => ∃ a n c, v = .tuple #[.slice a n c, .int .i64 (journalCode s)] ∧ Ext u w') := fun u e => (impl_NotesOf hs (hT.ext e) (hEr.ext e) (hM.ext e)).mono (by
    rintro _ w2 ⟨a, n, c, rfl, _, _, e2⟩
    rw [notes_code]
    exact ⟨a, n, c, rfl, e2⟩)
  unfold deskB
  generalize officeB X m = B at *
  generalize journalCode s = J at *
  refine Does.of_vc tabok Tryz.func48 rfl rfl rfl (by kernel_rfl) ?_; conv => whnf
  refine SemK.box ?_
  intro b1 w1 g1 l1 e1 B1
  conv => whnf
  refine SemK.load1 (by kernel_rfl) B1.cells (k := 2) rfl ?_
  conv => whnf
  refine (hN _ e1).mono ?_
  rintro _ w6 ⟨a2, n3, c4, rfl, e5⟩
  conv => whnf
  refine SemK.loadAggAt (n := 2) (by kernel_rfl) (k := 0) (B1.ext e5).cells rfl ?_
  conv => whnf
  refine (hO _ (Ext.trans e1 e5)).mono ?_
  rintro _ w8 ⟨rfl, e7⟩
  conv => whnf
  with_reducible refine IfB.split (fun h9 => ?_) (fun h9 => ?_)
  · conv => whnf
    exact ⟨by simp [*], (Ext.trans (Ext.trans e1 e5) e7)⟩
  · conv => whnf
    exact ⟨by simp [*], (Ext.trans (Ext.trans e1 e5) e7)⟩
theorem spec_l28Ok {w : World} {a b : Option Addr} {n c m d q : Nat} {s : ByteArray} {X : List (List (List Int))} (h : ArrS RDeck w a n X) (hc : Cells w q 0 [.slice a n c, .slice b m d, .string s]) (hs : s.size ≤ 1048576) : Does Tryz.prog 142 [.pointer (some ⟨q, 0, none⟩)] w (fun v w' => v = .bool (deskB X m s) ∧ Ext w w') := by
  have hO := fun u (e : Ext w u) => spec_l15Ok (h.ext e) (hc.ext e)
  have hN : ∀ u, Does Tryz.prog 238 [.string s] u (fun v w' => ∃ r, v = .tuple #[.pointer (some ⟨r, 0, none⟩), .int .i64 (journalCode s)] ∧ Ext u w') := fun u => (spec_l27Code hs u).mono (by
    rintro _ w2 ⟨r, rfl, e2, _⟩
    exact ⟨r, rfl, e2⟩)
  unfold deskB
  generalize officeB X m = B at *
  generalize journalCode s = J at *
  refine Does.of_vc tabok Tryz.func142 rfl rfl rfl (by kernel_rfl) ?_; conv => whnf
  refine SemK.load1 (by kernel_rfl) hc (k := 2) rfl ?_
  conv => whnf
  refine (hN _).mono ?_
  rintro _ w3 ⟨r1, rfl, e2⟩
  conv => whnf
  refine (hO _ e2).mono ?_
  rintro _ w5 ⟨rfl, e4⟩
  conv => whnf
  with_reducible refine IfB.split (fun h6 => ?_) (fun h6 => ?_)
  · conv => whnf
    exact ⟨by simp [*], (Ext.trans e2 e4)⟩
  · conv => whnf
    exact ⟨by simp [*], (Ext.trans e2 e4)⟩
theorem spec_ValidDesk {w : World} {a b : Option Addr} {n c m d : Nat} {s : ByteArray} {X : List (List (List Int))} (h : ArrS RDeck w a n X) (hs : s.size ≤ 1048576) : Does Tryz.prog 46 [.agg #[.slice a n c, .slice b m d, .string s]] w (fun v w' => v = .bool (deskB X m s) ∧ Ext w w') := by
  have hO := fun u (e : Ext w u) q (hc : Cells u q 0 [.slice a n c, .slice b m d, .string s]) => spec_l28Ok (h.ext e) hc hs
  refine Does.of_vc tabok Tryz.func46 rfl rfl rfl (by kernel_rfl) ?_; conv => whnf
  refine SemK.box ?_
  intro b1 w1 g1 l1 e1 B1
  conv => whnf
  refine (hO _ e1 _ B1.cells).mono ?_
  rintro _ w2 ⟨rfl, e2⟩
  conv => whnf
  exact ⟨rfl, Ext.trans e1 e2⟩
theorem impl_deskText {w : World} {a b : Option Addr} {n c m d : Nat} {X : List (List (List Int))} (h : ArrS RDeck w a n X) (h6 : X.length = 6) (hX : ∀ x ∈ X, x.length ≤ 40) (hT : Pow w) : Does Tryz.prog 148 [.agg #[.slice a n c, .slice b m d]] w (fun v w' => v = .string (lineS (countsOf X)) ∧ Ext w w') := by
  have hn := h.len
  have hm := h.le
  have hcl := countsOf_len X
  have hco := countsOf_ok hX
  obtain ⟨gs, hV, hE⟩ := h
  have hl := hV.len
  refine Does.of_vc tabok Tryz.func148 rfl rfl rfl (by kernel_rfl) ?_; conv => whnf
  refine SemK.box ?_
  intro b7 w7 g7 l7 e7 B7
  conv => whnf
  refine SemK.buildSlice mk_41 (vs := []) (by rfl) (by rfl) (by simp [Value.cells]) (by decide) ?_
  intro b8 w8 g8 l8 e8 B8
  have G8 := Grow.new0 (enc := eI) eI_len B8 g8
  conv => whnf
  refine SemK.load1 (by kernel_rfl) (B7.ext e8).cells (k := 0) rfl ?_
  conv => whnf
  have hcnl : (countsOf X).length = n := by omega
  refine LoopK.rule [3, 8, 9, 10] (fun (k : Nat) vs w' => ∃ a3 c3, vs = [.slice a3 k c3, .slice a n c, .int .i64 n, .int .i64 k] ∧ k ≤ n ∧ Grow eI 1 w7.heap.size 2 w' a3 k c3 ((countsOf X).take k) ∧ Ext w7 w') (fun k => n - k) tab tabok (by kernel_rfl) 0 ⟨_, _, rfl, by omega, G8, e8⟩ ?_
  rintro k g _ w30 ⟨a3, c3, rfl, hk, hG, hX0⟩
  have hX := Ext.trans e7 hX0
  rcases Nat.lt_or_ge k n with hkn | hkn
  · obtain ⟨g1, hg1⟩ := get_of_lt (l := gs) (k := k) (by omega)
    obtain ⟨x, hx, R⟩ := hE.get hg1
    have hxl := R.1.len
    have hct : (countsOf X).take (k + 1) = (countsOf X).take k ++ [(g1.n : Int)] := by
      rw [List.take_add_one, countsOf_get hx, hxl]
      rfl
    conv => whnf
    refine IfB.yes (by omega) ?_
    conv => whnf
    refine SemK.index (by kernel_rfl) (hV.ext hX) k rfl hg1 ?_
    intro b32 o32 ha32 hb32
    conv => whnf
    refine SemK.load0 (by kernel_rfl) hb32 rfl ?_
    conv => whnf
    refine (impl_sizeCardO _ _ _ _).mono ?_
    rintro _ _ ⟨rfl, rfl⟩
    conv => whnf
    refine SemK.buildSlice mk_41 (vs := [Value.int IntKind.i64 ↑g1.n]) (by rfl) (by rfl) (by simp [Value.cells]) (by decide) ?_
    intro b34 w34 g34 l34 e34 B34
    have G34 := Grow.of_blk (n := 1) (enc := eI) (xs := [↑g1.n]) eI_len B34 g34 rfl (by decide)
    conv => whnf
    refine SemK.appendArr0 (enc := eI) mk_41 eI_len (hG.ext e34) (G34.own.arr eI_len) (by intro y _; simp [eI, cellish]) (by omega) (by omega) (Below.size (Ext.trans hX0 e34)) ?_
    intro a35 c35 w35 G35 m35 i35
    conv => whnf
    refine SemK.add (((k + 1 : Nat) : Int)) (by omega) (by omega) (by omega) ?_
    conv => whnf
    refine ⟨k + 1, by omega, _, _, rfl, by omega, ?_, (Ext.mod_trans (Ext.trans hX0 e34) m35 (blkIn_new hG.new))⟩
    · rw [hct]; exact G35
  · obtain rfl : k = n := by omega
    rw [List.take_of_length_le (by omega)] at hG
    have hSL := fun u c (hA : Arr eI 1 u a3 k (countsOf X)) (e : Ext w u) => impl_SumLine (c := c) hA hco (by omega) (hT.ext e)
    conv => whnf
    refine IfB.no (by omega) ?_
    conv => whnf
    refine (hSL _ _ (hG.own.arr eI_len) hX).mono ?_
    rintro _ w32 ⟨rfl, e31⟩
    conv => whnf
    exact ⟨rfl, (Ext.trans hX e31)⟩
theorem impl_DeskText {w : World} {a b : Option Addr} {n c m d : Nat} {s : ByteArray} {X : List (List (List Int))} (h : ArrS RDeck w a n X) (hs : s.size ≤ 1048576) (hT : Pow w) (hEr : Errs w) (hM : MaxL w) : Does Tryz.prog 51 [.agg #[.slice a n c, .slice b m d, .string s]] w (fun v w' => v = .string (deskTextM X m s) ∧ Ext w w') := by
  have hO := fun u (e : Ext w u) => impl_ValidDesk (c := c) (b := b) (m := m) (d := d) (h.ext e) hs (hT.ext e) (hEr.ext e) (hM.ext e)
  cases hz : deskB X m s
  · rw [hz] at hO
    rw [deskText_no hz]
    refine Does.of_vc tabok Tryz.func51 rfl rfl rfl (by kernel_rfl) ?_; conv => whnf
    refine SemK.box ?_
    intro b1 w1 g1 l1 e1 B1
    conv => whnf
    refine SemK.loadAgg (n := 3) (by kernel_rfl) B1.cells rfl ?_
    conv => whnf
    refine (hO _ e1).mono ?_
    rintro _ w3 ⟨rfl, e2⟩
    conv => whnf
    exact ⟨rfl, (Ext.trans e1 e2)⟩
  · rw [hz] at hO
    rw [deskText_yes hz]
    have hoff : officeB X m = true := by
      simp only [deskB, Bool.and_eq_true] at hz
      exact hz.1
    have hom := office_mem hoff
    have hD := fun u (e : Ext w u) => impl_deskText (c := c) (b := b) (m := m) (d := d) (h.ext e) hom.1 (fun x hx => (deckB_mem (hom.2 x hx)).1) (hT.ext e)
    refine Does.of_vc tabok Tryz.func51 rfl rfl rfl (by kernel_rfl) ?_; conv => whnf
    refine SemK.box ?_
    intro b1 w1 g1 l1 e1 B1
    conv => whnf
    refine SemK.loadAgg (n := 3) (by kernel_rfl) B1.cells rfl ?_
    conv => whnf
    refine (hO _ e1).mono ?_
    rintro _ w3 ⟨rfl, e2⟩
    conv => whnf
    refine SemK.loadAggAt (n := 2) (by kernel_rfl) (k := 0) (B1.ext e2).cells rfl ?_
    conv => whnf
    refine (hD _ (Ext.trans e1 e2)).mono ?_
    rintro _ w5 ⟨rfl, e4⟩
    conv => whnf
    exact ⟨rfl, (Ext.trans (Ext.trans e1 e2) e4)⟩
theorem spec_l28Text {w : World} {a b : Option Addr} {n c m d q : Nat} {s : ByteArray} {X : List (List (List Int))} (h : ArrS RDeck w a n X) (hc : Cells w q 0 [.slice a n c, .slice b m d, .string s]) (h6 : X.length = 6) (hX : ∀ x ∈ X, x.length ≤ 40) : Does Tryz.prog 147 [.pointer (some ⟨q, 0, none⟩)] w (fun v w' => v = .string (lineS (countsOf X)) ∧ Ext w w') := by
  have hn := h.len
  have hm := h.le
  have hcl := countsOf_len X
  have hco := countsOf_ok hX
  have hjl := jn_len hco
  obtain ⟨gs, hV, hE⟩ := h
  have hl := hV.len
  refine Does.of_vc tabok Tryz.func147 rfl rfl rfl (by kernel_rfl) ?_; conv => whnf
  refine LoopK.rule [0, 3, 4] (fun (k : Nat) vs w' => vs = [.pointer (some ⟨q, 0, none⟩), .string (bs (jn ((countsOf X).take k))), .int .i64 k] ∧ k ≤ n ∧ Ext w w') (fun k => n - k) tab tabok (by kernel_rfl) 0 ⟨rfl, by omega, Ext.refl _⟩ ?_
  rintro k g _ w30 ⟨rfl, hk, hX⟩
  have hjk := hjl k
  rcases Nat.lt_or_ge k n with hkn | hkn
  · obtain ⟨g1, hg1⟩ := get_of_lt (l := gs) (k := k) (by omega)
    obtain ⟨x, hx, R⟩ := hE.get hg1
    have hxl := R.1.len
    have hcx := countsOf_get hx
    rw [hxl] at hcx
    have hxo : i64ok (g1.n : Int) := hco _ (List.mem_of_getElem? hcx)
    have hdl := decB_len hxo.1 hxo.2
    by_cases hk0 : 0 < k
    · have hjt : bs (jn ((countsOf X).take (k + 1))) = bs (jn ((countsOf X).take k)) ++ { data := #[32] } ++ decB (g1.n : Int) := by
        rw [jn_take hcx hk0]
        apply bytes_ext
        simp [bs, decB]
      have hjs : (bs (jn ((countsOf X).take k))).size ≤ 22 * k := by rw [bs_size]; exact hjk
      conv => whnf
      refine SemK.load1 (by kernel_rfl) (hc.ext hX) (k := 0) rfl ?_
      conv => whnf
      refine IfB.yes (by omega) ?_
      conv => whnf
      refine IfB.yes (by omega) ?_
      conv => whnf
      refine SemK.cat (by simp only [ByteArray.size_append, bs_size, sizeC, sizeT, List.length_cons, List.length_nil]; omega) ?_
      conv => whnf
      refine SemK.load1 (by kernel_rfl) (hc.ext hX) (k := 0) rfl ?_
      conv => whnf
      refine SemK.index (by kernel_rfl) (hV.ext hX) k rfl hg1 ?_
      intro b32 o32 ha32 hb32
      conv => whnf
      refine SemK.load0 (by kernel_rfl) hb32 rfl ?_
      conv => whnf
      refine (spec_l01Dec hxo _).mono ?_
      rintro _ w34 ⟨rfl, e33⟩
      conv => whnf
      refine SemK.cat (by simp only [ByteArray.size_append, bs_size, sizeC, sizeT, List.length_cons, List.length_nil]; omega) ?_
      conv => whnf
      refine SemK.add (((k + 1 : Nat) : Int)) (by omega) (by omega) (by omega) ?_
      conv => whnf
      exact ⟨k + 1, by omega, by rw [hjt]; rfl, by omega, Ext.trans hX e33⟩
    · have hk00 : k = 0 := by omega
      subst hk00
      have hjt : bs (jn ((countsOf X).take (0 + 1))) = bs (jn ((countsOf X).take 0)) ++ decB (g1.n : Int) := by
        rw [List.take_add_one, hcx]
        simp only [List.take_zero, List.nil_append, Option.toList_some, jn_one, jn_nil]
        apply bytes_ext
        simp [bs, decB]
      have hjs : (bs (jn ((countsOf X).take 0))).size ≤ 22 * 0 := by rw [bs_size]; exact hjk
      conv => whnf
      refine SemK.load1 (by kernel_rfl) (hc.ext hX) (k := 0) rfl ?_
      conv => whnf
      refine IfB.yes (by omega) ?_
      conv => whnf
      refine SemK.load1 (by kernel_rfl) (hc.ext hX) (k := 0) rfl ?_
      conv => whnf
      refine SemK.index (by kernel_rfl) (hV.ext hX) 0 rfl hg1 ?_
      intro b32 o32 ha32 hb32
      conv => whnf
      refine SemK.load1 (by kernel_rfl) hb32 (k := 0) rfl ?_
      conv => whnf
      refine (spec_l01Dec hxo _).mono ?_
      rintro _ w34 ⟨rfl, e33⟩
      conv => whnf
      refine SemK.cat (by omega) ?_
      conv => whnf
      refine SemK.add (((0 + 1 : Nat) : Int)) (by omega) (by omega) (by omega) ?_
      conv => whnf
      exact ⟨0 + 1, by omega, by rw [hjt]; rfl, by omega, Ext.trans hX e33⟩
  · obtain rfl : k = n := by omega
    rw [List.take_of_length_le (by omega)]
    have hz : ¬ countsOf X = [] := fun e => by rw [e] at hcl; simp at hcl; omega
    have hlS : lineS (countsOf X) = bs (jn (countsOf X)) := by unfold lineS; rw [if_neg hz]
    rw [hlS]
    conv => whnf
    refine SemK.load1 (by kernel_rfl) (hc.ext hX) (k := 0) rfl ?_
    conv => whnf
    refine IfB.no (by omega) ?_
    conv => whnf
    exact ⟨rfl, hX⟩
theorem spec_DeskText {w : World} {a b : Option Addr} {n c m d : Nat} {s : ByteArray} {X : List (List (List Int))} (h : ArrS RDeck w a n X) (hs : s.size ≤ 1048576) : Does Tryz.prog 50 [.agg #[.slice a n c, .slice b m d, .string s]] w (fun v w' => v = .string (deskTextM X m s) ∧ Ext w w') := by
  have hO := fun u (e : Ext w u) q (hc : Cells u q 0 [.slice a n c, .slice b m d, .string s]) => spec_l28Ok (h.ext e) hc hs
  cases hz : deskB X m s
  · rw [deskText_no hz]
    simp only [hz] at hO
    refine Does.of_vc tabok Tryz.func50 rfl rfl rfl (by kernel_rfl) ?_; conv => whnf
    refine SemK.box ?_
    intro b1 w1 g1 l1 e1 B1
    conv => whnf
    refine (hO _ e1 _ B1.cells).mono ?_
    rintro _ w3 ⟨rfl, e2⟩
    conv => whnf
    exact ⟨rfl, (Ext.trans e1 e2)⟩
  · rw [deskText_yes hz]
    simp only [hz] at hO
    have hoff : officeB X m = true := by
      simp only [deskB, Bool.and_eq_true] at hz
      exact hz.1
    have hom := office_mem hoff
    have hD := fun u (e : Ext w u) q (hc : Cells u q 0 [.slice a n c, .slice b m d, .string s]) => spec_l28Text (h.ext e) hc hom.1 (fun x hx => (deckB_mem (hom.2 x hx)).1)
    refine Does.of_vc tabok Tryz.func50 rfl rfl rfl (by kernel_rfl) ?_; conv => whnf
    refine SemK.box ?_
    intro b1 w1 g1 l1 e1 B1
    conv => whnf
    refine (hO _ e1 _ B1.cells).mono ?_
    rintro _ w3 ⟨rfl, e2⟩
    conv => whnf
    refine (hD _ (Ext.trans e1 e2) _ (B1.ext e2).cells).mono ?_
    rintro _ w5 ⟨rfl, e4⟩
    conv => whnf
    exact ⟨rfl, (Ext.trans (Ext.trans e1 e2) e4)⟩
end Go.Proofs.YtkjmbjedbmblmaaGreatDoor
