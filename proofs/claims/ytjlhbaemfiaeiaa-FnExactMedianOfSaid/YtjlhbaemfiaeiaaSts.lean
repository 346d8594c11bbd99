/- Contracts of functions of the given program, of the reference and of the laws: each says what a call returns, for all arguments that meet the premises that the theorem itself names. -/
import Derived.Test.YtjlhbaemfiaeiaaBase
import Derived.Test.YtjlhbaemfiaeiaaVcNest
namespace Go.Proofs.Ytjlhbaemfiaeiaa
open Go Go.RowKit Go.Vc
theorem st_7 : stInfo Try.prog 7 = some ([.int .i64 0, .int .i64 0, .bool false, .int .u8 0], [(0, 1), (1, 1), (2, 1), (3, 1)]) := by kernel_rfl
theorem st_8 : stInfo Try.prog 8 = some ([.int .i64 0, .int .i64 0, .bool false, .int .u8 0], [(0, 1), (1, 1), (2, 1), (3, 1)]) := by kernel_rfl
theorem st_13 : stInfo Try.prog 13 = some ([.string { data := #[] }, .int .u64 0], [(0, 1), (1, 1)]) := by kernel_rfl
theorem st_14 : stInfo Try.prog 14 = some ([.string { data := #[] }, .int .u64 0], [(0, 1), (1, 1)]) := by kernel_rfl
theorem st_18 : stInfo Try.prog 18 = some ([.pointer none], [(0, 1)]) := by kernel_rfl
theorem st_19 : stInfo Try.prog 19 = some ([.pointer none], [(0, 1)]) := by kernel_rfl
theorem st_23 : stInfo Try.prog 23 = some ([.string { data := #[] }, .int .i64 0, .int .i64 0, .int .i64 0, .string { data := #[] }], [(0, 1), (1, 1), (2, 1), (3, 1), (4, 1)]) := by kernel_rfl
theorem st_24 : stInfo Try.prog 24 = some ([.string { data := #[] }, .int .i64 0, .int .i64 0, .int .i64 0, .string { data := #[] }], [(0, 1), (1, 1), (2, 1), (3, 1), (4, 1)]) := by kernel_rfl
theorem st_31 : stInfo Try.prog 31 = some ([.string { data := #[] }, .int .i64 0, .int .i64 0, .int .i64 0, .string { data := #[] }], [(0, 1), (1, 1), (2, 1), (3, 1), (4, 1)]) := by kernel_rfl
theorem st_61 : stInfo Try.prog 61 = some ([.int .i64 0, .int .i64 0], [(0, 1), (1, 1)]) := by kernel_rfl
theorem st_62 : stInfo Try.prog 62 = some ([.int .i64 0, .int .i64 0], [(0, 1), (1, 1)]) := by kernel_rfl
theorem st_63 : stInfo Try.prog 63 = some ([.string { data := #[] }, .int .i64 0, .int .i64 0, .int .i64 0], [(0, 1), (1, 1), (2, 1), (3, 1)]) := by kernel_rfl
theorem st_64 : stInfo Try.prog 64 = some ([.string { data := #[] }, .int .i64 0, .int .i64 0, .int .i64 0], [(0, 1), (1, 1), (2, 1), (3, 1)]) := by kernel_rfl
theorem st_66 : stInfo Try.prog 66 = some ([.int .i64 0, .int .i64 0], [(0, 1), (1, 1)]) := by kernel_rfl
theorem st_67 : stInfo Try.prog 67 = some ([.int .i64 0, .int .i64 0], [(0, 1), (1, 1)]) := by kernel_rfl
theorem st_72 : stInfo Try.prog 72 = some ([.int .i64 0, .int .i64 0], [(0, 1), (1, 1)]) := by kernel_rfl
theorem st_133 : stInfo Try.prog 133 = some ([.slice none 0 0], [(0, 1)]) := by kernel_rfl
theorem st_134 : stInfo Try.prog 134 = some ([.slice none 0 0], [(0, 1)]) := by kernel_rfl
theorem st_138 : stInfo Try.prog 138 = some ([.slice none 0 0], [(0, 1)]) := by kernel_rfl
theorem st_144 : stInfo Try.prog 144 = some ([.string { data := #[] }, .int .i64 0], [(0, 1), (1, 1)]) := by kernel_rfl
theorem st_145 : stInfo Try.prog 145 = some ([.string { data := #[] }, .int .i64 0], [(0, 1), (1, 1)]) := by kernel_rfl
theorem st_168 : stInfo Try.prog 168 = some ([.slice none 0 0, .int .i64 0, .int .u64 0], [(0, 1), (1, 1), (2, 1)]) := by kernel_rfl
theorem st_169 : stInfo Try.prog 169 = some ([.slice none 0 0, .int .i64 0, .int .u64 0], [(0, 1), (1, 1), (2, 1)]) := by kernel_rfl
theorem st_239 : stInfo Try.prog 239 = some ([.pointer none, .pointer none, .pointer none, .string { data := #[] }], [(0, 1), (1, 1), (2, 1), (3, 1)]) := by kernel_rfl
theorem st_240 : stInfo Try.prog 240 = some ([.pointer none, .pointer none, .pointer none, .string { data := #[] }], [(0, 1), (1, 1), (2, 1), (3, 1)]) := by kernel_rfl
theorem st_242 : stInfo Try.prog 242 = some ([], [(0, 0)]) := by kernel_rfl
theorem st_243 : stInfo Try.prog 243 = some ([], [(0, 0)]) := by kernel_rfl
theorem st_251 : stInfo Try.prog 251 = some ([.int .u64 0, .int .u64 0, .int .u32 0, .int .u8 0, .int .u8 0, .int .u8 0, .int .u8 0, .nilFunc, .pointer none, .int .i32 0, .int .i32 0], [(0, 1), (1, 1), (2, 1), (3, 1), (4, 1), (5, 1), (6, 1), (7, 1), (8, 1), (9, 1), (10, 1)]) := by kernel_rfl
theorem st_252 : stInfo Try.prog 252 = some ([.int .u64 0, .int .u64 0, .int .u32 0, .int .u8 0, .int .u8 0, .int .u8 0, .int .u8 0, .nilFunc, .pointer none, .int .i32 0, .int .i32 0], [(0, 1), (1, 1), (2, 1), (3, 1), (4, 1), (5, 1), (6, 1), (7, 1), (8, 1), (9, 1), (10, 1)]) := by kernel_rfl
end Go.Proofs.Ytjlhbaemfiaeiaa
