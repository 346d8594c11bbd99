/- Contracts of functions of the given program, of the reference and of the laws: each says what a call returns, for all arguments that meet the premises that the theorem itself names. -/
import Derived.Test.YtenpdgodolkpaaaStrs
namespace Go.Proofs.Ytenpdgodolkpaaa
open Go Go.RowKit Go.Vc Go.M

def deskWordsM : List ByteArray := [bs [99, 97, 114, 100], bs [99, 108, 101, 97, 114], bs [102, 105, 114, 115, 116], bs [108, 111, 103], bs [109, 97, 116, 99, 104], bs [109, 101, 114, 103, 101], bs [110, 111, 116, 101], bs [112, 97, 115, 115, 101, 115], bs [114, 101, 115, 116], bs [115, 101, 108, 101, 99, 116], bs [115, 104, 111, 119], bs [115, 111, 114, 116], bs [116, 97, 98], bs [116, 111, 116, 97, 108]]

/-- a new slice of strings -/
def NewStrs (w : World) (xs : List ByteArray) (v : Value) (w' : World) : Prop := ∃ b n c, v = .slice (some ⟨b, 0, none⟩) n c ∧ w.heap.size ≤ b ∧ Ext w w' ∧ Own eS w' (some ⟨b, 0, none⟩) n 9 xs

theorem spec_l28Words (w : World) : Does Try.prog 32 [] w (NewStrs w deskWordsM) := by
  refine Does.of_vc tabok Try.func32 rfl rfl rfl (by kernel_rfl) ?_; conv => whnf
  refine SemK.buildSlice mk_22 (deskWordsM.map .string) (by rfl) (by rfl) (by simp [Value.cells, deskWordsM]) (by decide) ?_
  intro b w1 hb1 hb2 e1 hB
  conv => whnf
  exact ⟨b, 14, 14, rfl, hb1, e1, rfl, by omega, .inr ⟨b, [], rfl, hB⟩⟩
theorem spec_DeskWords (w : World) : Does Try.prog 9 [] w (NewStrs w deskWordsM) := by
  refine Does.of_vc tabok Try.func9 rfl rfl rfl (by kernel_rfl) ?_; conv => whnf
  refine (spec_l28Words w).mono ?_
  rintro _ w1 ⟨b, n, c, rfl, h1, h2, h3⟩
  conv => whnf
  exact ⟨b, n, c, rfl, h1, h2, h3⟩
theorem impl_DeskWords (w : World) : Does Try.prog 10 [] w (NewStrs w deskWordsM) := by
  refine Does.of_vc tabok Try.func10 rfl rfl rfl (by kernel_rfl) ?_; conv => whnf
  refine SemK.buildSlice mk_22 (deskWordsM.map .string) (by rfl) (by rfl) (by simp [Value.cells, deskWordsM]) (by decide) ?_
  intro b w1 hb1 hb2 e1 hB
  conv => whnf
  exact ⟨b, 14, 14, rfl, hb1, e1, rfl, by omega, .inr ⟨b, [], rfl, hB⟩⟩
theorem deskWords_len : deskWordsM.length = 14 := rfl
attribute [irreducible] deskWordsM
end Go.Proofs.Ytenpdgodolkpaaa
