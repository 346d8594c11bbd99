/- Contracts of functions of the given program, of the reference and of the laws: each says what a call returns, for all arguments that meet the premises that the theorem itself names. -/
import Derived.Test.YtehofnnghbcjgaaDoorBase
import Derived.Test.YtehofnnghbcjgaaDoorVcNest
namespace Go.Proofs.YtehofnnghbcjgaaDoor
open Go Go.RowKit Go.Vc
theorem st_7 : stInfo Tryd.prog 7 = some ([.int .i64 0, .int .i64 0, .bool false, .int .u8 0], [(0, 1), (1, 1), (2, 1), (3, 1)]) := by kernel_rfl
theorem st_8 : stInfo Tryd.prog 8 = some ([.int .i64 0, .int .i64 0, .bool false, .int .u8 0], [(0, 1), (1, 1), (2, 1), (3, 1)]) := by kernel_rfl
theorem st_13 : stInfo Tryd.prog 13 = some ([.string { data := #[] }, .int .u64 0], [(0, 1), (1, 1)]) := by kernel_rfl
theorem st_14 : stInfo Tryd.prog 14 = some ([.string { data := #[] }, .int .u64 0], [(0, 1), (1, 1)]) := by kernel_rfl
theorem st_18 : stInfo Tryd.prog 18 = some ([.pointer none], [(0, 1)]) := by kernel_rfl
theorem st_19 : stInfo Tryd.prog 19 = some ([.pointer none], [(0, 1)]) := by kernel_rfl
theorem st_33 : stInfo Tryd.prog 33 = some ([.int .i64 0, .int .i64 0, .int .i64 0, .string { data := #[] }], [(0, 1), (1, 1), (2, 1), (3, 1)]) := by kernel_rfl
theorem st_34 : stInfo Tryd.prog 34 = some ([.int .i64 0, .int .i64 0, .int .i64 0, .string { data := #[] }], [(0, 1), (1, 1), (2, 1), (3, 1)]) := by kernel_rfl
theorem st_49 : stInfo Tryd.prog 49 = some ([.slice none 0 0, .int .i64 0, .int .u64 0], [(0, 1), (1, 1), (2, 1)]) := by kernel_rfl
theorem st_50 : stInfo Tryd.prog 50 = some ([.slice none 0 0, .int .i64 0, .int .u64 0], [(0, 1), (1, 1), (2, 1)]) := by kernel_rfl
theorem st_98 : stInfo Tryd.prog 98 = some ([.pointer none, .slice none 0 0], [(0, 1), (1, 1)]) := by kernel_rfl
theorem st_99 : stInfo Tryd.prog 99 = some ([.pointer none, .slice none 0 0], [(0, 1), (1, 1)]) := by kernel_rfl
theorem st_107 : stInfo Tryd.prog 107 = some ([.string { data := #[] }, .string { data := #[] }, .nilIface], [(0, 1), (1, 1), (2, 1)]) := by kernel_rfl
theorem st_108 : stInfo Tryd.prog 108 = some ([.string { data := #[] }, .string { data := #[] }, .nilIface], [(0, 1), (1, 1), (2, 1)]) := by kernel_rfl
theorem st_118 : stInfo Tryd.prog 118 = some ([.int .u8 0, .int .u8 0], [(0, 1), (1, 1)]) := by kernel_rfl
theorem st_119 : stInfo Tryd.prog 119 = some ([.int .u8 0, .int .u8 0], [(0, 1), (1, 1)]) := by kernel_rfl
theorem st_125 : stInfo Tryd.prog 125 = some ([.string { data := #[] }], [(0, 1)]) := by kernel_rfl
theorem st_126 : stInfo Tryd.prog 126 = some ([.string { data := #[] }], [(0, 1)]) := by kernel_rfl
theorem st_138 : stInfo Tryd.prog 138 = some ([.pointer none, .pointer none, .pointer none, .string { data := #[] }], [(0, 1), (1, 1), (2, 1), (3, 1)]) := by kernel_rfl
theorem st_139 : stInfo Tryd.prog 139 = some ([.pointer none, .pointer none, .pointer none, .string { data := #[] }], [(0, 1), (1, 1), (2, 1), (3, 1)]) := by kernel_rfl
theorem st_141 : stInfo Tryd.prog 141 = some ([], [(0, 0)]) := by kernel_rfl
theorem st_142 : stInfo Tryd.prog 142 = some ([], [(0, 0)]) := by kernel_rfl
theorem st_149 : stInfo Tryd.prog 149 = some ([.int .u64 0, .int .u64 0, .int .u32 0, .int .u8 0, .int .u8 0, .int .u8 0, .int .u8 0, .nilFunc, .pointer none, .int .i32 0, .int .i32 0], [(0, 1), (1, 1), (2, 1), (3, 1), (4, 1), (5, 1), (6, 1), (7, 1), (8, 1), (9, 1), (10, 1)]) := by kernel_rfl
theorem st_150 : stInfo Tryd.prog 150 = some ([.int .u64 0, .int .u64 0, .int .u32 0, .int .u8 0, .int .u8 0, .int .u8 0, .int .u8 0, .nilFunc, .pointer none, .int .i32 0, .int .i32 0], [(0, 1), (1, 1), (2, 1), (3, 1), (4, 1), (5, 1), (6, 1), (7, 1), (8, 1), (9, 1), (10, 1)]) := by kernel_rfl
end Go.Proofs.YtehofnnghbcjgaaDoor
