/- Contracts of functions of the given program, of the reference and of the laws: each says what a call returns, for all arguments that meet the premises that the theorem itself names. -/
import Derived.Test.YtkjmbjedbmblmaaGreatDoorCardsM
import Derived.Test.YtkjmbjedbmblmaaGreatDoorBasics
import Derived.Test.YtkjmbjedbmblmaaGreatDoorVcApp
import Derived.Test.YtkjmbjedbmblmaaGreatDoorVcFlat
namespace Go.M
open Go Go.Vc
theorem TField.flat {x : TField} (h : x.ok) : Flat [false, false] x.enc := by
  obtain ⟨h0, h1⟩ := h
  exact ⟨_, _, rfl, h0, ⟨_, _, rfl, h1, rfl⟩⟩
theorem TField.of_flat {cs : List Value} (h : Flat [false, false] cs) : ∃ x : TField, cs = x.enc ∧ x.ok := by
  obtain ⟨v0, _, rfl, h0, ⟨v1, _, rfl, h1, rfl⟩⟩ := h
  exact ⟨⟨v0, v1⟩, rfl, h0, h1⟩
end Go.M
namespace Go.Proofs.YtkjmbjedbmblmaaGreatDoor
open Go Go.RowKit Go.Vc Go.M
theorem laws_toField (x : TField) (w : World) : Does Tryz.prog 287 [.agg ⟨x.enc⟩] w (fun v w' => v = .agg ⟨x.enc⟩ ∧ Ext w w') := by
  refine Does.of_vc tabok Tryz.func287 rfl rfl rfl (by kernel_rfl) ?_; conv => whnf
  refine SemK.box ?_
  intro b1 w1 g1 l1 e1 B1
  conv => whnf
  refine SemK.alloc (z := .agg #[.int .i64 0, .int .i64 0]) (by kernel_rfl) ?_
  intro b2 w2 g2 l2 e2 B2
  conv => whnf
  refine SemK.alloc (z := .agg #[.int .i64 0, .int .i64 0]) (by kernel_rfl) ?_
  intro b3 w3 g3 l3 e3 B3
  conv => whnf
  refine SemK.load1 (by kernel_rfl) (B1.ext (Ext.trans e2 e3)).cells (k := 0) rfl ?_
  conv => whnf
  refine SemK.store1 (by kernel_rfl) B3 (k := 0) (by decide) rfl ?_
  intro w4 c4 B4
  have B4 : Blk w4 b3 [Value.int IntKind.i64 x.from_, Value.int IntKind.i64 0] _ := B4
  conv => whnf
  refine SemK.load1 (by kernel_rfl) (B1.ext (Ext.but_trans (Ext.trans e2 e3) c4.but (Nat.le_trans (Below.size e2) g3))).cells (k := 1) rfl ?_
  conv => whnf
  refine SemK.store1 (by kernel_rfl) B4 (k := 1) (Nat.le_of_ble_eq_true rfl) rfl ?_
  intro w5 c5 B5
  have B5 : Blk w5 b3 [Value.int IntKind.i64 x.from_, Value.int IntKind.i64 x.to_] _ := B5
  conv => whnf
  refine SemK.loadAgg (n := 2) (by kernel_rfl) B5.cells rfl ?_
  conv => whnf
  refine SemK.storeAll (by kernel_rfl) (B2.ext (Ext.but_trans (Ext.but_trans e3 c4.but g3) c5.but g3)) (vs := [Value.int IntKind.i64 x.from_, Value.int IntKind.i64 x.to_]) rfl rfl (by simp [List.cons, cellish]) ?_
  intro w6 c6 B6
  conv => whnf
  refine CellK.of (run_loadAgg (n := 2) (by kernel_rfl) rfl B6.cells) ?_
  conv => whnf
  exact ⟨rfl, (Ext.but_trans (Ext.but_trans (Ext.but_trans (Ext.trans (Ext.trans e1 e2) e3) c4.but (Nat.le_trans (Below.size (Ext.trans e1 e2)) g3)) c5.but (Nat.le_trans (Below.size (Ext.trans e1 e2)) g3)) c6.but (Nat.le_trans (Below.size e1) g2))⟩
end Go.Proofs.YtkjmbjedbmblmaaGreatDoor
