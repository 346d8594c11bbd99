/- Contracts of functions of the given program, of the reference and of the laws: each says what a call returns, for all arguments that meet the premises that the theorem itself names. -/
import Derived.Test.YtfgbijddjoojbaaGreatFTotal
import Derived.Test.YtfgbijddjoojbaaGreatInts
import Derived.Test.YtfgbijddjoojbaaGreatVcNest
import Derived.Test.YtfgbijddjoojbaaGreatSts
namespace Go.M
open Go Go.Vc
instance : EncL eI 1 := ⟨eI_len⟩
instance : EncL eS 1 := ⟨eS_len⟩
instance : EncL TTotal.enc 2 := ⟨TTotal.enc_len⟩
abbrev RCard : Rd (List Int) := RA eI 1
abbrev RDeck : Rd (List (List Int)) := RS RCard
abbrev RTots : Rd (List TTotal) := RA TTotal.enc 2
abbrev OCard : Ow (List Int) := OA eI
abbrev ODeck : Ow (List (List Int)) := OS OCard
abbrev OTots : Ow (List TTotal) := OA TTotal.enc
def mkCard (k : Nat) (x : List Int) : List Int := marksI k x.length
def wtCard (x : List Int) : Nat := x.length
def mkDeck (k : Nat) (x : List (List Int)) : List (List Int) := mkAll mkCard wtCard k x
def wtDeck (x : List (List Int)) : Nat := wtAll wtCard x
def mkTots (k : Nat) (x : List TTotal) : List TTotal := TTotal.marks k x.length
def wtTots (x : List TTotal) : Nat := 2 * x.length
end Go.M
namespace Go.Proofs.YtfgbijddjoojbaaGreat
open Go Go.RowKit Go.Vc Go.M
end Go.Proofs.YtfgbijddjoojbaaGreat
