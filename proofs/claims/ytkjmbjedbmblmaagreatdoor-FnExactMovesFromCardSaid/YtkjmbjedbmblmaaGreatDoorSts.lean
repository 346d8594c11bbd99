/- Contracts of functions of the given program, of the reference and of the laws: each says what a call returns, for all arguments that meet the premises that the theorem itself names. -/
import Derived.Test.YtkjmbjedbmblmaaGreatDoorBase
import Derived.Test.YtkjmbjedbmblmaaGreatDoorVcNest
namespace Go.Proofs.YtkjmbjedbmblmaaGreatDoor
open Go Go.RowKit Go.Vc
theorem st_7 : stInfo Tryz.prog 7 = some ([.int .i64 0, .int .i64 0, .bool false, .int .u8 0], [(0, 1), (1, 1), (2, 1), (3, 1)]) := by kernel_rfl
theorem st_8 : stInfo Tryz.prog 8 = some ([.int .i64 0, .int .i64 0, .bool false, .int .u8 0], [(0, 1), (1, 1), (2, 1), (3, 1)]) := by kernel_rfl
theorem st_13 : stInfo Tryz.prog 13 = some ([.string { data := #[] }, .int .u64 0], [(0, 1), (1, 1)]) := by kernel_rfl
theorem st_14 : stInfo Tryz.prog 14 = some ([.string { data := #[] }, .int .u64 0], [(0, 1), (1, 1)]) := by kernel_rfl
theorem st_18 : stInfo Tryz.prog 18 = some ([.pointer none], [(0, 1)]) := by kernel_rfl
theorem st_19 : stInfo Tryz.prog 19 = some ([.pointer none], [(0, 1)]) := by kernel_rfl
theorem st_25 : stInfo Tryz.prog 25 = some ([.int .i64 0, .int .i64 0], [(0, 1), (1, 1)]) := by kernel_rfl
theorem st_26 : stInfo Tryz.prog 26 = some ([.int .i64 0, .int .i64 0], [(0, 1), (1, 1)]) := by kernel_rfl
theorem st_50 : stInfo Tryz.prog 50 = some ([.string { data := #[] }, .int .i64 0], [(0, 1), (1, 1)]) := by kernel_rfl
theorem st_51 : stInfo Tryz.prog 51 = some ([.string { data := #[] }, .int .i64 0], [(0, 1), (1, 1)]) := by kernel_rfl
theorem st_54 : stInfo Tryz.prog 54 = some ([.int .i64 0, .slice none 0 0], [(0, 1), (1, 1)]) := by kernel_rfl
theorem st_55 : stInfo Tryz.prog 55 = some ([.int .i64 0, .slice none 0 0], [(0, 1), (1, 1)]) := by kernel_rfl
theorem st_66 : stInfo Tryz.prog 66 = some ([.int .i64 0, .slice none 0 0], [(0, 1), (1, 1)]) := by kernel_rfl
theorem st_67 : stInfo Tryz.prog 67 = some ([.int .i64 0, .slice none 0 0], [(0, 1), (1, 1)]) := by kernel_rfl
theorem st_81 : stInfo Tryz.prog 81 = some ([.slice none 0 0, .slice none 0 0], [(0, 1), (1, 1)]) := by kernel_rfl
theorem st_82 : stInfo Tryz.prog 82 = some ([.slice none 0 0, .slice none 0 0], [(0, 1), (1, 1)]) := by kernel_rfl
theorem st_83 : stInfo Tryz.prog 83 = some ([.slice none 0 0, .slice none 0 0, .string { data := #[] }], [(0, 2), (2, 1)]) := by kernel_rfl
theorem st_84 : stInfo Tryz.prog 84 = some ([.slice none 0 0, .slice none 0 0, .string { data := #[] }], [(0, 2), (2, 1)]) := by kernel_rfl
theorem st_89 : stInfo Tryz.prog 89 = some ([.slice none 0 0, .slice none 0 0], [(0, 1), (1, 1)]) := by kernel_rfl
theorem st_90 : stInfo Tryz.prog 90 = some ([.slice none 0 0, .slice none 0 0], [(0, 1), (1, 1)]) := by kernel_rfl
theorem st_91 : stInfo Tryz.prog 91 = some ([.slice none 0 0, .slice none 0 0, .string { data := #[] }], [(0, 2), (2, 1)]) := by kernel_rfl
theorem st_92 : stInfo Tryz.prog 92 = some ([.slice none 0 0, .slice none 0 0, .string { data := #[] }], [(0, 2), (2, 1)]) := by kernel_rfl
theorem st_98 : stInfo Tryz.prog 98 = some ([.string { data := #[] }, .int .i64 0, .int .i64 0, .int .i64 0, .string { data := #[] }], [(0, 1), (1, 1), (2, 1), (3, 1), (4, 1)]) := by kernel_rfl
theorem st_99 : stInfo Tryz.prog 99 = some ([.string { data := #[] }, .int .i64 0, .int .i64 0, .int .i64 0, .string { data := #[] }], [(0, 1), (1, 1), (2, 1), (3, 1), (4, 1)]) := by kernel_rfl
theorem st_125 : stInfo Tryz.prog 125 = some ([.int .i64 0, .int .i64 0], [(0, 1), (1, 1)]) := by kernel_rfl
theorem st_126 : stInfo Tryz.prog 126 = some ([.int .i64 0, .int .i64 0], [(0, 1), (1, 1)]) := by kernel_rfl
theorem st_140 : stInfo Tryz.prog 140 = some ([.string { data := #[] }, .int .i64 0, .int .i64 0, .int .i64 0], [(0, 1), (1, 1), (2, 1), (3, 1)]) := by kernel_rfl
theorem st_141 : stInfo Tryz.prog 141 = some ([.string { data := #[] }, .int .i64 0, .int .i64 0, .int .i64 0], [(0, 1), (1, 1), (2, 1), (3, 1)]) := by kernel_rfl
theorem st_144 : stInfo Tryz.prog 144 = some ([.slice none 0 0], [(0, 1)]) := by kernel_rfl
theorem st_145 : stInfo Tryz.prog 145 = some ([.slice none 0 0], [(0, 1)]) := by kernel_rfl
theorem st_161 : stInfo Tryz.prog 161 = some ([.string { data := #[] }, .int .i64 0, .int .i64 0, .int .i64 0], [(0, 1), (1, 1), (2, 1), (3, 1)]) := by kernel_rfl
theorem st_164 : stInfo Tryz.prog 164 = some ([.slice none 0 0], [(0, 1)]) := by kernel_rfl
theorem st_169 : stInfo Tryz.prog 169 = some ([.string { data := #[] }, .int .i64 0, .int .i64 0, .int .i64 0], [(0, 1), (1, 1), (2, 2)]) := by kernel_rfl
theorem st_170 : stInfo Tryz.prog 170 = some ([.string { data := #[] }, .int .i64 0, .int .i64 0, .int .i64 0], [(0, 1), (1, 1), (2, 2)]) := by kernel_rfl
theorem st_256 : stInfo Tryz.prog 256 = some ([.slice none 0 0, .int .i64 0, .int .u64 0], [(0, 1), (1, 1), (2, 1)]) := by kernel_rfl
theorem st_257 : stInfo Tryz.prog 257 = some ([.slice none 0 0, .int .i64 0, .int .u64 0], [(0, 1), (1, 1), (2, 1)]) := by kernel_rfl
theorem st_261 : stInfo Tryz.prog 261 = some ([.int .i64 0, .int .i64 0], [(0, 1), (1, 1)]) := by kernel_rfl
theorem st_262 : stInfo Tryz.prog 262 = some ([.string { data := #[] }, .int .i64 0, .int .i64 0, .int .i64 0], [(0, 1), (1, 1), (2, 2)]) := by kernel_rfl
theorem st_263 : stInfo Tryz.prog 263 = some ([.string { data := #[] }, .int .i64 0, .int .i64 0, .int .i64 0], [(0, 1), (1, 1), (2, 2)]) := by kernel_rfl
theorem st_308 : stInfo Tryz.prog 308 = some ([.pointer none, .slice none 0 0], [(0, 1), (1, 1)]) := by kernel_rfl
theorem st_309 : stInfo Tryz.prog 309 = some ([.pointer none, .slice none 0 0], [(0, 1), (1, 1)]) := by kernel_rfl
theorem st_341 : stInfo Tryz.prog 341 = some ([.string { data := #[] }, .int .i64 0, .int .i64 0, .slice none 0 0], [(0, 1), (1, 1), (2, 1), (3, 1)]) := by kernel_rfl
theorem st_342 : stInfo Tryz.prog 342 = some ([.string { data := #[] }, .int .i64 0, .int .i64 0, .slice none 0 0], [(0, 1), (1, 1), (2, 1), (3, 1)]) := by kernel_rfl
theorem st_372 : stInfo Tryz.prog 372 = some ([.string { data := #[] }, .int .i64 0], [(0, 1), (1, 1)]) := by kernel_rfl
theorem st_376 : stInfo Tryz.prog 376 = some ([.int .i64 0, .int .i64 0, .int .i64 0, .string { data := #[] }], [(0, 1), (1, 1), (2, 1), (3, 1)]) := by kernel_rfl
theorem st_377 : stInfo Tryz.prog 377 = some ([.int .i64 0, .int .i64 0, .int .i64 0, .string { data := #[] }], [(0, 1), (1, 1), (2, 1), (3, 1)]) := by kernel_rfl
theorem st_427 : stInfo Tryz.prog 427 = some ([.string { data := #[] }, .string { data := #[] }, .nilIface], [(0, 1), (1, 1), (2, 1)]) := by kernel_rfl
theorem st_428 : stInfo Tryz.prog 428 = some ([.string { data := #[] }, .string { data := #[] }, .nilIface], [(0, 1), (1, 1), (2, 1)]) := by kernel_rfl
theorem st_433 : stInfo Tryz.prog 433 = some ([.int .u8 0, .int .u8 0], [(0, 1), (1, 1)]) := by kernel_rfl
theorem st_434 : stInfo Tryz.prog 434 = some ([.int .u8 0, .int .u8 0], [(0, 1), (1, 1)]) := by kernel_rfl
theorem st_437 : stInfo Tryz.prog 437 = some ([.string { data := #[] }], [(0, 1)]) := by kernel_rfl
theorem st_438 : stInfo Tryz.prog 438 = some ([.string { data := #[] }], [(0, 1)]) := by kernel_rfl
theorem st_441 : stInfo Tryz.prog 441 = some ([.pointer none, .pointer none, .pointer none, .string { data := #[] }], [(0, 1), (1, 1), (2, 1), (3, 1)]) := by kernel_rfl
theorem st_442 : stInfo Tryz.prog 442 = some ([.pointer none, .pointer none, .pointer none, .string { data := #[] }], [(0, 1), (1, 1), (2, 1), (3, 1)]) := by kernel_rfl
theorem st_444 : stInfo Tryz.prog 444 = some ([], [(0, 0)]) := by kernel_rfl
theorem st_445 : stInfo Tryz.prog 445 = some ([], [(0, 0)]) := by kernel_rfl
theorem st_452 : stInfo Tryz.prog 452 = some ([.int .u64 0, .int .u64 0, .int .u32 0, .int .u8 0, .int .u8 0, .int .u8 0, .int .u8 0, .nilFunc, .pointer none, .int .i32 0, .int .i32 0], [(0, 1), (1, 1), (2, 1), (3, 1), (4, 1), (5, 1), (6, 1), (7, 1), (8, 1), (9, 1), (10, 1)]) := by kernel_rfl
theorem st_453 : stInfo Tryz.prog 453 = some ([.int .u64 0, .int .u64 0, .int .u32 0, .int .u8 0, .int .u8 0, .int .u8 0, .int .u8 0, .nilFunc, .pointer none, .int .i32 0, .int .i32 0], [(0, 1), (1, 1), (2, 1), (3, 1), (4, 1), (5, 1), (6, 1), (7, 1), (8, 1), (9, 1), (10, 1)]) := by kernel_rfl
end Go.Proofs.YtkjmbjedbmblmaaGreatDoor
