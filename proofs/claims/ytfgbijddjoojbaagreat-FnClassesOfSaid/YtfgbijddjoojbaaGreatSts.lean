/- Contracts of functions of the given program, of the reference and of the laws: each says what a call returns, for all arguments that meet the premises that the theorem itself names. -/
import Derived.Test.YtfgbijddjoojbaaGreatBase
import Derived.Test.YtfgbijddjoojbaaGreatVcNest
namespace Go.Proofs.YtfgbijddjoojbaaGreat
open Go Go.RowKit Go.Vc
theorem st_7 : stInfo Tryz.prog 7 = some ([.int .i64 0, .int .i64 0, .bool false, .int .u8 0], [(0, 1), (1, 1), (2, 1), (3, 1)]) := by kernel_rfl
theorem st_8 : stInfo Tryz.prog 8 = some ([.int .i64 0, .int .i64 0, .bool false, .int .u8 0], [(0, 1), (1, 1), (2, 1), (3, 1)]) := by kernel_rfl
theorem st_13 : stInfo Tryz.prog 13 = some ([.string { data := #[] }, .int .u64 0], [(0, 1), (1, 1)]) := by kernel_rfl
theorem st_14 : stInfo Tryz.prog 14 = some ([.string { data := #[] }, .int .u64 0], [(0, 1), (1, 1)]) := by kernel_rfl
theorem st_18 : stInfo Tryz.prog 18 = some ([.pointer none], [(0, 1)]) := by kernel_rfl
theorem st_19 : stInfo Tryz.prog 19 = some ([.pointer none], [(0, 1)]) := by kernel_rfl
theorem st_25 : stInfo Tryz.prog 25 = some ([.int .i64 0, .int .i64 0], [(0, 1), (1, 1)]) := by kernel_rfl
theorem st_26 : stInfo Tryz.prog 26 = some ([.int .i64 0, .int .i64 0], [(0, 1), (1, 1)]) := by kernel_rfl
theorem st_50 : stInfo Tryz.prog 50 = some ([.slice none 0 0], [(0, 1)]) := by kernel_rfl
theorem st_51 : stInfo Tryz.prog 51 = some ([.slice none 0 0], [(0, 1)]) := by kernel_rfl
theorem st_86 : stInfo Tryz.prog 86 = some ([.slice none 0 0, .int .i64 0, .int .u64 0], [(0, 1), (1, 1), (2, 1)]) := by kernel_rfl
theorem st_87 : stInfo Tryz.prog 87 = some ([.slice none 0 0, .int .i64 0, .int .u64 0], [(0, 1), (1, 1), (2, 1)]) := by kernel_rfl
theorem st_159 : stInfo Tryz.prog 159 = some ([.pointer none, .pointer none, .pointer none, .string { data := #[] }], [(0, 1), (1, 1), (2, 1), (3, 1)]) := by kernel_rfl
theorem st_160 : stInfo Tryz.prog 160 = some ([.pointer none, .pointer none, .pointer none, .string { data := #[] }], [(0, 1), (1, 1), (2, 1), (3, 1)]) := by kernel_rfl
theorem st_162 : stInfo Tryz.prog 162 = some ([], [(0, 0)]) := by kernel_rfl
theorem st_163 : stInfo Tryz.prog 163 = some ([], [(0, 0)]) := by kernel_rfl
theorem st_171 : stInfo Tryz.prog 171 = some ([.int .u64 0, .int .u64 0, .int .u32 0, .int .u8 0, .int .u8 0, .int .u8 0, .int .u8 0, .nilFunc, .pointer none, .int .i32 0, .int .i32 0], [(0, 1), (1, 1), (2, 1), (3, 1), (4, 1), (5, 1), (6, 1), (7, 1), (8, 1), (9, 1), (10, 1)]) := by kernel_rfl
theorem st_172 : stInfo Tryz.prog 172 = some ([.int .u64 0, .int .u64 0, .int .u32 0, .int .u8 0, .int .u8 0, .int .u8 0, .int .u8 0, .nilFunc, .pointer none, .int .i32 0, .int .i32 0], [(0, 1), (1, 1), (2, 1), (3, 1), (4, 1), (5, 1), (6, 1), (7, 1), (8, 1), (9, 1), (10, 1)]) := by kernel_rfl
end Go.Proofs.YtfgbijddjoojbaaGreat
