/- Contracts of functions of the given program, of the reference and of the laws: each says what a call returns, for all arguments that meet the premises that the theorem itself names. -/
import Derived.Test.YtmhnmdcleeadiaaBase
import Derived.Test.YtmhnmdcleeadiaaVcNest
namespace Go.Proofs.Ytmhnmdcleeadiaa
open Go Go.RowKit Go.Vc
theorem st_7 : stInfo Try.prog 7 = some ([.int .i64 0, .int .i64 0, .bool false, .int .u8 0], [(0, 1), (1, 1), (2, 1), (3, 1)]) := by kernel_rfl
theorem st_8 : stInfo Try.prog 8 = some ([.int .i64 0, .int .i64 0, .bool false, .int .u8 0], [(0, 1), (1, 1), (2, 1), (3, 1)]) := by kernel_rfl
theorem st_13 : stInfo Try.prog 13 = some ([.string { data := #[] }, .int .u64 0], [(0, 1), (1, 1)]) := by kernel_rfl
theorem st_14 : stInfo Try.prog 14 = some ([.string { data := #[] }, .int .u64 0], [(0, 1), (1, 1)]) := by kernel_rfl
theorem st_18 : stInfo Try.prog 18 = some ([.pointer none], [(0, 1)]) := by kernel_rfl
theorem st_19 : stInfo Try.prog 19 = some ([.pointer none], [(0, 1)]) := by kernel_rfl
theorem st_23 : stInfo Try.prog 23 = some ([.string { data := #[] }, .int .i64 0, .int .i64 0, .int .i64 0, .string { data := #[] }], [(0, 1), (1, 1), (2, 1), (3, 1), (4, 1)]) := by kernel_rfl
theorem st_24 : stInfo Try.prog 24 = some ([.string { data := #[] }, .int .i64 0, .int .i64 0, .int .i64 0, .string { data := #[] }], [(0, 1), (1, 1), (2, 1), (3, 1), (4, 1)]) := by kernel_rfl
theorem st_31 : stInfo Try.prog 31 = some ([.string { data := #[] }, .int .i64 0, .int .i64 0, .int .i64 0, .string { data := #[] }], [(0, 1), (1, 1), (2, 1), (3, 1), (4, 1)]) := by kernel_rfl
theorem st_37 : stInfo Try.prog 37 = some ([.int .i64 0, .int .i64 0], [(0, 1), (1, 1)]) := by kernel_rfl
theorem st_38 : stInfo Try.prog 38 = some ([.int .i64 0, .int .i64 0], [(0, 1), (1, 1)]) := by kernel_rfl
theorem st_45 : stInfo Try.prog 45 = some ([.int .i64 0, .int .i64 0], [(0, 1), (1, 1)]) := by kernel_rfl
theorem st_79 : stInfo Try.prog 79 = some ([.slice none 0 0], [(0, 1)]) := by kernel_rfl
theorem st_80 : stInfo Try.prog 80 = some ([.slice none 0 0], [(0, 1)]) := by kernel_rfl
theorem st_81 : stInfo Try.prog 81 = some ([.slice none 0 0], [(0, 1)]) := by kernel_rfl
theorem st_90 : stInfo Try.prog 90 = some ([.string { data := #[] }, .int .i64 0], [(0, 1), (1, 1)]) := by kernel_rfl
theorem st_91 : stInfo Try.prog 91 = some ([.string { data := #[] }, .int .i64 0], [(0, 1), (1, 1)]) := by kernel_rfl
theorem st_169 : stInfo Try.prog 169 = some ([.pointer none, .pointer none, .pointer none, .string { data := #[] }], [(0, 1), (1, 1), (2, 1), (3, 1)]) := by kernel_rfl
theorem st_170 : stInfo Try.prog 170 = some ([.pointer none, .pointer none, .pointer none, .string { data := #[] }], [(0, 1), (1, 1), (2, 1), (3, 1)]) := by kernel_rfl
theorem st_172 : stInfo Try.prog 172 = some ([], [(0, 0)]) := by kernel_rfl
theorem st_173 : stInfo Try.prog 173 = some ([], [(0, 0)]) := by kernel_rfl
theorem st_181 : stInfo Try.prog 181 = some ([.int .u64 0, .int .u64 0, .int .u32 0, .int .u8 0, .int .u8 0, .int .u8 0, .int .u8 0, .nilFunc, .pointer none, .int .i32 0, .int .i32 0], [(0, 1), (1, 1), (2, 1), (3, 1), (4, 1), (5, 1), (6, 1), (7, 1), (8, 1), (9, 1), (10, 1)]) := by kernel_rfl
theorem st_182 : stInfo Try.prog 182 = some ([.int .u64 0, .int .u64 0, .int .u32 0, .int .u8 0, .int .u8 0, .int .u8 0, .int .u8 0, .nilFunc, .pointer none, .int .i32 0, .int .i32 0], [(0, 1), (1, 1), (2, 1), (3, 1), (4, 1), (5, 1), (6, 1), (7, 1), (8, 1), (9, 1), (10, 1)]) := by kernel_rfl
end Go.Proofs.Ytmhnmdcleeadiaa
