/- Contracts of functions of the given program, of the reference and of the laws: each says what a call returns, for all arguments that meet the premises that the theorem itself names. -/
import Derived.Test.YtehofnnghbcjgaaGreatDoorBase
import Derived.Test.YtehofnnghbcjgaaGreatDoorVcNest
namespace Go.Proofs.YtehofnnghbcjgaaGreatDoor
open Go Go.RowKit Go.Vc
theorem st_7 : stInfo Tryz.prog 7 = some ([.int .i64 0, .int .i64 0, .bool false, .int .u8 0], [(0, 1), (1, 1), (2, 1), (3, 1)]) := by kernel_rfl
theorem st_8 : stInfo Tryz.prog 8 = some ([.int .i64 0, .int .i64 0, .bool false, .int .u8 0], [(0, 1), (1, 1), (2, 1), (3, 1)]) := by kernel_rfl
theorem st_13 : stInfo Tryz.prog 13 = some ([.string { data := #[] }, .int .u64 0], [(0, 1), (1, 1)]) := by kernel_rfl
theorem st_14 : stInfo Tryz.prog 14 = some ([.string { data := #[] }, .int .u64 0], [(0, 1), (1, 1)]) := by kernel_rfl
theorem st_18 : stInfo Tryz.prog 18 = some ([.pointer none], [(0, 1)]) := by kernel_rfl
theorem st_19 : stInfo Tryz.prog 19 = some ([.pointer none], [(0, 1)]) := by kernel_rfl
theorem st_30 : stInfo Tryz.prog 30 = some ([.int .i64 0, .int .i64 0, .int .i64 0, .string { data := #[] }], [(0, 1), (1, 1), (2, 1), (3, 1)]) := by kernel_rfl
theorem st_31 : stInfo Tryz.prog 31 = some ([.int .i64 0, .int .i64 0, .int .i64 0, .string { data := #[] }], [(0, 1), (1, 1), (2, 1), (3, 1)]) := by kernel_rfl
theorem st_40 : stInfo Tryz.prog 40 = some ([.string { data := #[] }, .int .i64 0, .int .i64 0, .int .i64 0, .string { data := #[] }], [(0, 1), (1, 1), (2, 1), (3, 1), (4, 1)]) := by kernel_rfl
theorem st_41 : stInfo Tryz.prog 41 = some ([.string { data := #[] }, .int .i64 0, .int .i64 0, .int .i64 0, .string { data := #[] }], [(0, 1), (1, 1), (2, 1), (3, 1), (4, 1)]) := by kernel_rfl
theorem st_71 : stInfo Tryz.prog 71 = some ([.int .i64 0, .int .i64 0], [(0, 1), (1, 1)]) := by kernel_rfl
theorem st_72 : stInfo Tryz.prog 72 = some ([.int .i64 0, .int .i64 0], [(0, 1), (1, 1)]) := by kernel_rfl
theorem st_78 : stInfo Tryz.prog 78 = some ([.int .i64 0, .slice none 0 0], [(0, 1), (1, 1)]) := by kernel_rfl
theorem st_79 : stInfo Tryz.prog 79 = some ([.int .i64 0, .slice none 0 0], [(0, 1), (1, 1)]) := by kernel_rfl
theorem st_93 : stInfo Tryz.prog 93 = some ([.string { data := #[] }, .int .i64 0, .int .i64 0, .int .i64 0], [(0, 1), (1, 1), (2, 1), (3, 1)]) := by kernel_rfl
theorem st_94 : stInfo Tryz.prog 94 = some ([.string { data := #[] }, .int .i64 0, .int .i64 0, .int .i64 0], [(0, 1), (1, 1), (2, 1), (3, 1)]) := by kernel_rfl
theorem st_106 : stInfo Tryz.prog 106 = some ([.string { data := #[] }, .int .i64 0, .int .i64 0, .slice none 0 0], [(0, 1), (1, 1), (2, 1), (3, 1)]) := by kernel_rfl
theorem st_107 : stInfo Tryz.prog 107 = some ([.string { data := #[] }, .int .i64 0, .int .i64 0, .slice none 0 0], [(0, 1), (1, 1), (2, 1), (3, 1)]) := by kernel_rfl
theorem st_147 : stInfo Tryz.prog 147 = some ([.int .i64 0, .int .i64 0], [(0, 1), (1, 1)]) := by kernel_rfl
theorem st_148 : stInfo Tryz.prog 148 = some ([.int .i64 0, .int .i64 0], [(0, 1), (1, 1)]) := by kernel_rfl
theorem st_149 : stInfo Tryz.prog 149 = some ([.string { data := #[] }, .int .i64 0, .int .i64 0, .int .i64 0], [(0, 1), (1, 1), (2, 2)]) := by kernel_rfl
theorem st_150 : stInfo Tryz.prog 150 = some ([.string { data := #[] }, .int .i64 0, .int .i64 0, .int .i64 0], [(0, 1), (1, 1), (2, 2)]) := by kernel_rfl
theorem st_153 : stInfo Tryz.prog 153 = some ([.slice none 0 0], [(0, 1)]) := by kernel_rfl
theorem st_154 : stInfo Tryz.prog 154 = some ([.slice none 0 0], [(0, 1)]) := by kernel_rfl
theorem st_175 : stInfo Tryz.prog 175 = some ([.slice none 0 0, .int .i64 0, .int .u64 0], [(0, 1), (1, 1), (2, 1)]) := by kernel_rfl
theorem st_176 : stInfo Tryz.prog 176 = some ([.slice none 0 0, .int .i64 0, .int .u64 0], [(0, 1), (1, 1), (2, 1)]) := by kernel_rfl
theorem st_214 : stInfo Tryz.prog 214 = some ([.pointer none, .slice none 0 0], [(0, 1), (1, 1)]) := by kernel_rfl
theorem st_215 : stInfo Tryz.prog 215 = some ([.pointer none, .slice none 0 0], [(0, 1), (1, 1)]) := by kernel_rfl
theorem st_298 : stInfo Tryz.prog 298 = some ([.string { data := #[] }, .string { data := #[] }, .nilIface], [(0, 1), (1, 1), (2, 1)]) := by kernel_rfl
theorem st_299 : stInfo Tryz.prog 299 = some ([.string { data := #[] }, .string { data := #[] }, .nilIface], [(0, 1), (1, 1), (2, 1)]) := by kernel_rfl
theorem st_304 : stInfo Tryz.prog 304 = some ([.int .u8 0, .int .u8 0], [(0, 1), (1, 1)]) := by kernel_rfl
theorem st_305 : stInfo Tryz.prog 305 = some ([.int .u8 0, .int .u8 0], [(0, 1), (1, 1)]) := by kernel_rfl
theorem st_308 : stInfo Tryz.prog 308 = some ([.string { data := #[] }], [(0, 1)]) := by kernel_rfl
theorem st_309 : stInfo Tryz.prog 309 = some ([.string { data := #[] }], [(0, 1)]) := by kernel_rfl
theorem st_313 : stInfo Tryz.prog 313 = some ([.pointer none, .pointer none, .pointer none, .string { data := #[] }], [(0, 1), (1, 1), (2, 1), (3, 1)]) := by kernel_rfl
theorem st_314 : stInfo Tryz.prog 314 = some ([.pointer none, .pointer none, .pointer none, .string { data := #[] }], [(0, 1), (1, 1), (2, 1), (3, 1)]) := by kernel_rfl
theorem st_316 : stInfo Tryz.prog 316 = some ([], [(0, 0)]) := by kernel_rfl
theorem st_317 : stInfo Tryz.prog 317 = some ([], [(0, 0)]) := by kernel_rfl
theorem st_324 : stInfo Tryz.prog 324 = some ([.int .u64 0, .int .u64 0, .int .u32 0, .int .u8 0, .int .u8 0, .int .u8 0, .int .u8 0, .nilFunc, .pointer none, .int .i32 0, .int .i32 0], [(0, 1), (1, 1), (2, 1), (3, 1), (4, 1), (5, 1), (6, 1), (7, 1), (8, 1), (9, 1), (10, 1)]) := by kernel_rfl
theorem st_325 : stInfo Tryz.prog 325 = some ([.int .u64 0, .int .u64 0, .int .u32 0, .int .u8 0, .int .u8 0, .int .u8 0, .int .u8 0, .nilFunc, .pointer none, .int .i32 0, .int .i32 0], [(0, 1), (1, 1), (2, 1), (3, 1), (4, 1), (5, 1), (6, 1), (7, 1), (8, 1), (9, 1), (10, 1)]) := by kernel_rfl
end Go.Proofs.YtehofnnghbcjgaaGreatDoor
