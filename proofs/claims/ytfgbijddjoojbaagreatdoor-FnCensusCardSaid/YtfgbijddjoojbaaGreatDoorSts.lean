/- Contracts of functions of the given program, of the reference and of the laws: each says what a call returns, for all arguments that meet the premises that the theorem itself names. -/
import Derived.Test.YtfgbijddjoojbaaGreatDoorBase
import Derived.Test.YtfgbijddjoojbaaGreatDoorVcNest
namespace Go.Proofs.YtfgbijddjoojbaaGreatDoor
open Go Go.RowKit Go.Vc
theorem st_7 : stInfo Tryz.prog 7 = some ([.int .i64 0, .int .i64 0, .bool false, .int .u8 0], [(0, 1), (1, 1), (2, 1), (3, 1)]) := by kernel_rfl
theorem st_8 : stInfo Tryz.prog 8 = some ([.int .i64 0, .int .i64 0, .bool false, .int .u8 0], [(0, 1), (1, 1), (2, 1), (3, 1)]) := by kernel_rfl
theorem st_13 : stInfo Tryz.prog 13 = some ([.string { data := #[] }, .int .u64 0], [(0, 1), (1, 1)]) := by kernel_rfl
theorem st_14 : stInfo Tryz.prog 14 = some ([.string { data := #[] }, .int .u64 0], [(0, 1), (1, 1)]) := by kernel_rfl
theorem st_18 : stInfo Tryz.prog 18 = some ([.pointer none], [(0, 1)]) := by kernel_rfl
theorem st_19 : stInfo Tryz.prog 19 = some ([.pointer none], [(0, 1)]) := by kernel_rfl
theorem st_25 : stInfo Tryz.prog 25 = some ([.int .i64 0, .int .i64 0], [(0, 1), (1, 1)]) := by kernel_rfl
theorem st_26 : stInfo Tryz.prog 26 = some ([.int .i64 0, .int .i64 0], [(0, 1), (1, 1)]) := by kernel_rfl
theorem st_50 : stInfo Tryz.prog 50 = some ([.string { data := #[] }, .int .i64 0], [(0, 1), (1, 1)]) := by kernel_rfl
theorem st_51 : stInfo Tryz.prog 51 = some ([.string { data := #[] }, .int .i64 0], [(0, 1), (1, 1)]) := by kernel_rfl
theorem st_58 : stInfo Tryz.prog 58 = some ([.int .i64 0, .int .i64 0], [(0, 1), (1, 1)]) := by kernel_rfl
theorem st_59 : stInfo Tryz.prog 59 = some ([.int .i64 0, .int .i64 0], [(0, 1), (1, 1)]) := by kernel_rfl
theorem st_65 : stInfo Tryz.prog 65 = some ([.int .i64 0, .slice none 0 0], [(0, 1), (1, 1)]) := by kernel_rfl
theorem st_66 : stInfo Tryz.prog 66 = some ([.int .i64 0, .slice none 0 0], [(0, 1), (1, 1)]) := by kernel_rfl
theorem st_80 : stInfo Tryz.prog 80 = some ([.string { data := #[] }, .int .i64 0, .int .i64 0, .int .i64 0], [(0, 1), (1, 1), (2, 1), (3, 1)]) := by kernel_rfl
theorem st_81 : stInfo Tryz.prog 81 = some ([.string { data := #[] }, .int .i64 0, .int .i64 0, .int .i64 0], [(0, 1), (1, 1), (2, 1), (3, 1)]) := by kernel_rfl
theorem st_84 : stInfo Tryz.prog 84 = some ([.slice none 0 0], [(0, 1)]) := by kernel_rfl
theorem st_85 : stInfo Tryz.prog 85 = some ([.slice none 0 0], [(0, 1)]) := by kernel_rfl
theorem st_110 : stInfo Tryz.prog 110 = some ([.string { data := #[] }, .int .i64 0, .int .i64 0, .int .i64 0], [(0, 1), (1, 1), (2, 2)]) := by kernel_rfl
theorem st_111 : stInfo Tryz.prog 111 = some ([.string { data := #[] }, .int .i64 0, .int .i64 0, .int .i64 0], [(0, 1), (1, 1), (2, 2)]) := by kernel_rfl
theorem st_150 : stInfo Tryz.prog 150 = some ([.slice none 0 0, .int .i64 0, .int .u64 0], [(0, 1), (1, 1), (2, 1)]) := by kernel_rfl
theorem st_151 : stInfo Tryz.prog 151 = some ([.slice none 0 0, .int .i64 0, .int .u64 0], [(0, 1), (1, 1), (2, 1)]) := by kernel_rfl
theorem st_173 : stInfo Tryz.prog 173 = some ([.pointer none, .slice none 0 0], [(0, 1), (1, 1)]) := by kernel_rfl
theorem st_174 : stInfo Tryz.prog 174 = some ([.pointer none, .slice none 0 0], [(0, 1), (1, 1)]) := by kernel_rfl
theorem st_257 : stInfo Tryz.prog 257 = some ([.string { data := #[] }, .string { data := #[] }, .nilIface], [(0, 1), (1, 1), (2, 1)]) := by kernel_rfl
theorem st_258 : stInfo Tryz.prog 258 = some ([.string { data := #[] }, .string { data := #[] }, .nilIface], [(0, 1), (1, 1), (2, 1)]) := by kernel_rfl
theorem st_263 : stInfo Tryz.prog 263 = some ([.int .u8 0, .int .u8 0], [(0, 1), (1, 1)]) := by kernel_rfl
theorem st_264 : stInfo Tryz.prog 264 = some ([.int .u8 0, .int .u8 0], [(0, 1), (1, 1)]) := by kernel_rfl
theorem st_269 : stInfo Tryz.prog 269 = some ([.string { data := #[] }], [(0, 1)]) := by kernel_rfl
theorem st_270 : stInfo Tryz.prog 270 = some ([.string { data := #[] }], [(0, 1)]) := by kernel_rfl
theorem st_273 : stInfo Tryz.prog 273 = some ([.pointer none, .pointer none, .pointer none, .string { data := #[] }], [(0, 1), (1, 1), (2, 1), (3, 1)]) := by kernel_rfl
theorem st_274 : stInfo Tryz.prog 274 = some ([.pointer none, .pointer none, .pointer none, .string { data := #[] }], [(0, 1), (1, 1), (2, 1), (3, 1)]) := by kernel_rfl
theorem st_276 : stInfo Tryz.prog 276 = some ([], [(0, 0)]) := by kernel_rfl
theorem st_277 : stInfo Tryz.prog 277 = some ([], [(0, 0)]) := by kernel_rfl
theorem st_284 : stInfo Tryz.prog 284 = some ([.int .u64 0, .int .u64 0, .int .u32 0, .int .u8 0, .int .u8 0, .int .u8 0, .int .u8 0, .nilFunc, .pointer none, .int .i32 0, .int .i32 0], [(0, 1), (1, 1), (2, 1), (3, 1), (4, 1), (5, 1), (6, 1), (7, 1), (8, 1), (9, 1), (10, 1)]) := by kernel_rfl
theorem st_285 : stInfo Tryz.prog 285 = some ([.int .u64 0, .int .u64 0, .int .u32 0, .int .u8 0, .int .u8 0, .int .u8 0, .int .u8 0, .nilFunc, .pointer none, .int .i32 0, .int .i32 0], [(0, 1), (1, 1), (2, 1), (3, 1), (4, 1), (5, 1), (6, 1), (7, 1), (8, 1), (9, 1), (10, 1)]) := by kernel_rfl
end Go.Proofs.YtfgbijddjoojbaaGreatDoor
