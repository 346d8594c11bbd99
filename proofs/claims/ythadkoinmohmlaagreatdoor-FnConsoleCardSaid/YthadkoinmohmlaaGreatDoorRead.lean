/- Contracts of functions of the given program, of the reference and of the laws: each says what a call returns, for all arguments that meet the premises that the theorem itself names. -/
import Derived.Test.YthadkoinmohmlaaGreatDoorTots
import Derived.Test.YthadkoinmohmlaaGreatDoorDec
import Derived.Test.YthadkoinmohmlaaGreatDoorVcWrite
import Derived.Test.YthadkoinmohmlaaGreatDoorBasics
import Derived.Test.YthadkoinmohmlaaGreatDoorVcApp
namespace Go.M
open Go Go.Vc
theorem cut_sizes {c:UInt8} (s:ByteArray):(bs (Lib.cut s.data.toList [c]).1).size≤s.size∧(bs (Lib.cut s.data.toList [c]).2.1).size≤s.size:=by
  have hs:s.data.toList.length=s.size:=by simp
  rw [bs_size,bs_size];unfold Lib.cut;split
  · simp;omega
  · simp
end Go.M
namespace Go.Proofs.YthadkoinmohmlaaGreatDoor
open Go Go.RowKit Go.Vc Go.M Go.Shelf Go.Proofs
end Go.Proofs.YthadkoinmohmlaaGreatDoor
namespace Go.Proofs.YthadkoinmohmlaaGreatDoor
open Go Go.RowKit Go.Vc Go.M
def deskWordsM:List ByteArray:=[bs [99,97,114,100],bs [99,108,101,97,114],bs [102,105,114,115,116],bs [108,111,103],bs [109,97,116,99,104],bs [109,101,114,103,101],bs [110,111,116,101],bs [112,97,115,115,101,115],bs [114,101,115,116],bs [115,101,108,101,99,116],bs [115,104,111,119],bs [115,111,114,116],bs [116,97,98],bs [116,111,116,97,108]]
def NewStrs (w:World) (xs:List ByteArray) (v:Value) (w':World):Prop:=∃ b n c,v = .slice (some ⟨b,0,none⟩) n c∧w.heap.size≤b∧Ext w w'∧Own eS w' (some ⟨b,0,none⟩) n 9 xs
theorem impl_DeskWords (w:World):Does Tryz.prog 30 [] w (NewStrs w deskWordsM):=by
  refine oV Tryz.func30 ?_;refine SemK.buildSlice mk_24 (deskWordsM.map .string) (by rfl) (by rfl) (by simp [Value.cells,deskWordsM]) (by decide) ?_;intro b w1 hb1 hb2 e1 hB;exact ⟨b,14,14,rfl,hb1,e1,rfl,by omega,.inr ⟨b,[],rfl,hB⟩⟩
attribute [irreducible] deskWordsM
end Go.Proofs.YthadkoinmohmlaaGreatDoor
