/- Contracts of functions of the given program, of the reference and of the laws: each says what a call returns, for all arguments that meet the premises that the theorem itself names. -/
import Derived.Test.YtpjeooikjcdbpaaDoorOffice
import Derived.Test.YtpjeooikjcdbpaaDoorVcOpen
namespace Go.M
open Go Go.Vc
def FCard (x : List Int) : Prop := x.length ≤ 1048576
def FDeck (x : List (List Int)) : Prop := x.length ≤ 1048576 ∧ ∀ y ∈ x, FCard y
def FTots (x : List TTotal) : Prop := x.length ≤ 1048576
def okCard (_ : List Int) : Prop := True
def okDeck (_ : List (List Int)) : Prop := True
def okTots (x : List TTotal) : Prop := ∀ y ∈ x, y.ok
abbrev FSz {α : Type} (F : α → Prop) (x : List α) : Prop := x.length ≤ 1048576 ∧ ∀ y ∈ x, F y
theorem flat_set1 {gs : List Hd} {d : Hd} {j k : Nat} (hk : gs.length = k) : (flat eH gs ++ flat (fun _ : Unit => [Value.slice none 0 0]) (List.replicate (j + 1) ())).set k (.slice d.a d.n d.c) = flat eH (gs ++ [d]) ++ flat (fun _ : Unit => [Value.slice none 0 0]) (List.replicate j ()) := by
  have hl : (flat eH gs).length = k := by rw [flat_length eH_len, hk]; omega
  rw [List.set_append_right _ _ (by omega), hl, Nat.sub_self]
  simp [flat, List.replicate_succ, eH]
end Go.M
namespace Go.Proofs.YtpjeooikjcdbpaaDoor
open Go Go.RowKit Go.Vc Go.M
theorem laws_szInt64S {w : World} {a : Option Addr} {n c : Nat} (hm : n ≤ 9223372036854775807) {left : Int} (h0 : 0 ≤ left) (h1 : left ≤ 1048576) :
    Does Tryd.prog 32 [.slice a n c, .int .i64 left] w (fun v w' => ∃ r : Int, v = .int .i64 r ∧ (r = -1 ∨ (0 ≤ r ∧ r ≤ left ∧ n ≤ 1048576)) ∧ Ext w w') := by
  refine Does.of_vc tabok Tryd.func32 rfl rfl rfl (by kernel_rfl) ?_; conv => whnf
  refine SemK.sub (left - n) rfl (by omega) (by omega) ?_
  conv => whnf
  with_reducible refine IfB.dec (fun p0 => ?_) (fun p0 => ?_)
  · conv => whnf
    exact ⟨-1, rfl, .inl rfl, Ext.refl _⟩
  conv => whnf
  exact ⟨left - n, rfl, .inr ⟨by omega, by omega, by omega⟩, Ext.refl _⟩
end Go.Proofs.YtpjeooikjcdbpaaDoor
