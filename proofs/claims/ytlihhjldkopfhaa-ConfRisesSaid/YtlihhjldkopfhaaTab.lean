/- The types of the program, as a table. -/
import Derived.Test.YtlihhjldkopfhaaProg
import Derived.Test.YtlihhjldkopfhaaRk3
namespace Go.Proofs.Ytlihhjldkopfhaa
open Go.RowKit

def ti2 : Ti := ⟨.int .i64, .int .i64 0, 1, 8, []⟩
theorem ti2_ok : Ti.of Try.prog 2 ti2 := ⟨by kernel_rfl, by kernel_rfl, by kernel_rfl⟩
def ti3 : Ti := ⟨.int .i64, .int .i64 0, 1, 8, []⟩
theorem ti3_ok : Ti.of Try.prog 3 ti3 := ⟨by kernel_rfl, by kernel_rfl, by kernel_rfl⟩
def ti4 : Ti := ⟨.bool, .bool false, 1, 1, []⟩
theorem ti4_ok : Ti.of Try.prog 4 ti4 := ⟨by kernel_rfl, by kernel_rfl, by kernel_rfl⟩
def ti5 : Ti := ⟨.int .u8, .int .u8 0, 1, 1, []⟩
theorem ti5_ok : Ti.of Try.prog 5 ti5 := ⟨by kernel_rfl, by kernel_rfl, by kernel_rfl⟩
def ti7 : Ti := ⟨.struct #[⟨"x", 2, 0, false, "", "runtime", 0⟩, ⟨"y", 3, 1, false, "", "runtime", 8⟩, ⟨"signed", 4, 2, false, "", "runtime", 16⟩, ⟨"code", 6, 3, false, "", "runtime", 17⟩], .agg #[.int .i64 0, .int .i64 0, .bool false, .int .u8 0], 4, 24, [(0, 2), (1, 3), (2, 4), (3, 6)]⟩
theorem ti7_ok : Ti.of Try.prog 7 ti7 := ⟨by kernel_rfl, by kernel_rfl, by kernel_rfl⟩
def ti9 : Ti := ⟨.string, .string ByteArray.empty, 1, 16, []⟩
theorem ti9_ok : Ti.of Try.prog 9 ti9 := ⟨by kernel_rfl, by kernel_rfl, by kernel_rfl⟩
def ti12 : Ti := ⟨.int .u64, .int .u64 0, 1, 8, []⟩
theorem ti12_ok : Ti.of Try.prog 12 ti12 := ⟨by kernel_rfl, by kernel_rfl, by kernel_rfl⟩
def ti13 : Ti := ⟨.struct #[⟨"msg", 9, 0, false, "", "runtime", 0⟩, ⟨"addr", 12, 1, false, "", "runtime", 16⟩], .agg #[.string ByteArray.empty, .int .u64 0], 2, 24, [(0, 9), (1, 12)]⟩
theorem ti13_ok : Ti.of Try.prog 13 ti13 := ⟨by kernel_rfl, by kernel_rfl, by kernel_rfl⟩
def ti21 : Ti := ⟨.int .i32, .int .i32 0, 1, 4, []⟩
theorem ti21_ok : Ti.of Try.prog 21 ti21 := ⟨by kernel_rfl, by kernel_rfl, by kernel_rfl⟩
def ti22 : Ti := ⟨.slice 3, .slice none 0 0, 1, 24, []⟩
theorem ti22_ok : Ti.of Try.prog 22 ti22 := ⟨by kernel_rfl, by kernel_rfl, by kernel_rfl⟩
def ti23 : Ti := ⟨.struct #[⟨"Members", 22, 0, false, "", "", 0⟩], .agg #[.slice none 0 0], 1, 24, [(0, 22)]⟩
theorem ti23_ok : Ti.of Try.prog 23 ti23 := ⟨by kernel_rfl, by kernel_rfl, by kernel_rfl⟩
def ti24 : Ti := ⟨.struct #[⟨"Members", 22, 0, false, "", "", 0⟩], .agg #[.slice none 0 0], 1, 24, [(0, 22)]⟩
theorem ti24_ok : Ti.of Try.prog 24 ti24 := ⟨by kernel_rfl, by kernel_rfl, by kernel_rfl⟩
def ti28 : Ti := ⟨.int .i64, .int .i64 0, 1, 8, []⟩
theorem ti28_ok : Ti.of Try.prog 28 ti28 := ⟨by kernel_rfl, by kernel_rfl, by kernel_rfl⟩
def ti35 : Ti := ⟨.slice 24, .slice none 0 0, 1, 24, []⟩
theorem ti35_ok : Ti.of Try.prog 35 ti35 := ⟨by kernel_rfl, by kernel_rfl, by kernel_rfl⟩
def ti36 : Ti := ⟨.slice 37, .slice none 0 0, 1, 24, []⟩
theorem ti36_ok : Ti.of Try.prog 36 ti36 := ⟨by kernel_rfl, by kernel_rfl, by kernel_rfl⟩
def ti37 : Ti := ⟨.slice 5, .slice none 0 0, 1, 24, []⟩
theorem ti37_ok : Ti.of Try.prog 37 ti37 := ⟨by kernel_rfl, by kernel_rfl, by kernel_rfl⟩
def ti48 : Ti := ⟨.array 2 22, .agg #[.slice none 0 0, .slice none 0 0], 2, 48, []⟩
theorem ti48_ok : Ti.of Try.prog 48 ti48 := ⟨by kernel_rfl, by kernel_rfl, by kernel_rfl⟩
def ti52 : Ti := ⟨.slice 56, .slice none 0 0, 1, 24, []⟩
theorem ti52_ok : Ti.of Try.prog 52 ti52 := ⟨by kernel_rfl, by kernel_rfl, by kernel_rfl⟩
def ti53 : Ti := ⟨.int .u64, .int .u64 0, 1, 8, []⟩
theorem ti53_ok : Ti.of Try.prog 53 ti53 := ⟨by kernel_rfl, by kernel_rfl, by kernel_rfl⟩
def ti55 : Ti := ⟨.struct #[⟨"Member", 3, 0, false, "", "", 0⟩, ⟨"Index", 53, 1, false, "", "", 8⟩], .agg #[.int .i64 0, .int .u64 0], 2, 16, [(0, 3), (1, 53)]⟩
theorem ti55_ok : Ti.of Try.prog 55 ti55 := ⟨by kernel_rfl, by kernel_rfl, by kernel_rfl⟩
def ti56 : Ti := ⟨.struct #[⟨"Member", 3, 0, false, "", "", 0⟩, ⟨"Index", 53, 1, false, "", "", 8⟩], .agg #[.int .i64 0, .int .u64 0], 2, 16, [(0, 3), (1, 53)]⟩
theorem ti56_ok : Ti.of Try.prog 56 ti56 := ⟨by kernel_rfl, by kernel_rfl, by kernel_rfl⟩
def ti58 : Ti := ⟨.pointer 56, .pointer none, 1, 8, []⟩
theorem ti58_ok : Ti.of Try.prog 58 ti58 := ⟨by kernel_rfl, by kernel_rfl, by kernel_rfl⟩
def ti59 : Ti := ⟨.int .u64, .int .u64 0, 1, 8, []⟩
theorem ti59_ok : Ti.of Try.prog 59 ti59 := ⟨by kernel_rfl, by kernel_rfl, by kernel_rfl⟩
def ti72 : Ti := ⟨.slice 53, .slice none 0 0, 1, 24, []⟩
theorem ti72_ok : Ti.of Try.prog 72 ti72 := ⟨by kernel_rfl, by kernel_rfl, by kernel_rfl⟩
def ti82 : Ti := ⟨.int .i64, .int .i64 0, 1, 8, []⟩
theorem ti82_ok : Ti.of Try.prog 82 ti82 := ⟨by kernel_rfl, by kernel_rfl, by kernel_rfl⟩
def ti90 : Ti := ⟨.int .u32, .int .u32 0, 1, 4, []⟩
theorem ti90_ok : Ti.of Try.prog 90 ti90 := ⟨by kernel_rfl, by kernel_rfl, by kernel_rfl⟩
def ti93 : Ti := ⟨.int .u64, .int .u64 0, 1, 8, []⟩
theorem ti93_ok : Ti.of Try.prog 93 ti93 := ⟨by kernel_rfl, by kernel_rfl, by kernel_rfl⟩
def ti97 : Ti := ⟨.pointer 3, .pointer none, 1, 8, []⟩
theorem ti97_ok : Ti.of Try.prog 97 ti97 := ⟨by kernel_rfl, by kernel_rfl, by kernel_rfl⟩
def ti100 : Ti := ⟨.pointer 93, .pointer none, 1, 8, []⟩
theorem ti100_ok : Ti.of Try.prog 100 ti100 := ⟨by kernel_rfl, by kernel_rfl, by kernel_rfl⟩
def ti104 : Ti := ⟨.struct #[⟨"_interface", 17, 0, false, "", "runtime", 0⟩, ⟨"concrete", 17, 1, false, "", "runtime", 8⟩, ⟨"asserted", 17, 2, false, "", "runtime", 16⟩, ⟨"missingMethod", 9, 3, false, "", "runtime", 24⟩], .agg #[.pointer none, .pointer none, .pointer none, .string ByteArray.empty], 4, 40, [(0, 17), (1, 17), (2, 17), (3, 9)]⟩
theorem ti104_ok : Ti.of Try.prog 104 ti104 := ⟨by kernel_rfl, by kernel_rfl, by kernel_rfl⟩
def ti106 : Ti := ⟨.array 0 16, .agg #[], 0, 0, []⟩
theorem ti106_ok : Ti.of Try.prog 106 ti106 := ⟨by kernel_rfl, by kernel_rfl, by kernel_rfl⟩
def ti107 : Ti := ⟨.struct #[⟨"_", 106, 0, false, "", "runtime", 0⟩], .agg #[], 0, 0, [(0, 106)]⟩
theorem ti107_ok : Ti.of Try.prog 107 ti107 := ⟨by kernel_rfl, by kernel_rfl, by kernel_rfl⟩
def ti113 : Ti := ⟨.pointer 5, .pointer none, 1, 8, []⟩
theorem ti113_ok : Ti.of Try.prog 113 ti113 := ⟨by kernel_rfl, by kernel_rfl, by kernel_rfl⟩
def ti116 : Ti := ⟨.struct #[⟨"Size_", 12, 0, false, "", "", 0⟩, ⟨"PtrBytes", 12, 1, false, "", "", 8⟩, ⟨"Hash", 90, 2, false, "", "", 16⟩, ⟨"TFlag", 110, 3, false, "", "", 20⟩, ⟨"Align_", 5, 4, false, "", "", 21⟩, ⟨"FieldAlign_", 5, 5, false, "", "", 22⟩, ⟨"Kind_", 111, 6, false, "", "", 23⟩, ⟨"Equal", 112, 7, false, "", "", 24⟩, ⟨"GCData", 113, 8, false, "", "", 32⟩, ⟨"Str", 114, 9, false, "", "", 40⟩, ⟨"PtrToThis", 115, 10, false, "", "", 44⟩], .agg #[.int .u64 0, .int .u64 0, .int .u32 0, .int .u8 0, .int .u8 0, .int .u8 0, .int .u8 0, .nilFunc, .pointer none, .int .i32 0, .int .i32 0], 11, 48, [(0, 12), (1, 12), (2, 90), (3, 110), (4, 5), (5, 5), (6, 111), (7, 112), (8, 113), (9, 114), (10, 115)]⟩
theorem ti116_ok : Ti.of Try.prog 116 ti116 := ⟨by kernel_rfl, by kernel_rfl, by kernel_rfl⟩
def tabs : List (Nat × Ti) := [(2, ti2), (3, ti3), (4, ti4), (5, ti5), (7, ti7), (9, ti9), (12, ti12), (13, ti13), (21, ti21), (22, ti22), (23, ti23), (24, ti24), (28, ti28), (35, ti35), (36, ti36), (37, ti37), (48, ti48), (52, ti52), (53, ti53), (55, ti55), (56, ti56), (58, ti58), (59, ti59), (72, ti72), (82, ti82), (90, ti90), (93, ti93), (97, ti97), (100, ti100), (104, ti104), (106, ti106), (107, ti107), (113, ti113), (116, ti116)]
instance : HasTab Try.prog := ⟨tabs, ⟨ti2_ok, ⟨ti3_ok, ⟨ti4_ok, ⟨ti5_ok, ⟨ti7_ok, ⟨ti9_ok, ⟨ti12_ok, ⟨ti13_ok, ⟨ti21_ok, ⟨ti22_ok, ⟨ti23_ok, ⟨ti24_ok, ⟨ti28_ok, ⟨ti35_ok, ⟨ti36_ok, ⟨ti37_ok, ⟨ti48_ok, ⟨ti52_ok, ⟨ti53_ok, ⟨ti55_ok, ⟨ti56_ok, ⟨ti58_ok, ⟨ti59_ok, ⟨ti72_ok, ⟨ti82_ok, ⟨ti90_ok, ⟨ti93_ok, ⟨ti97_ok, ⟨ti100_ok, ⟨ti104_ok, ⟨ti106_ok, ⟨ti107_ok, ⟨ti113_ok, ⟨ti116_ok, trivial⟩⟩⟩⟩⟩⟩⟩⟩⟩⟩⟩⟩⟩⟩⟩⟩⟩⟩⟩⟩⟩⟩⟩⟩⟩⟩⟩⟩⟩⟩⟩⟩⟩⟩⟩
end Go.Proofs.Ytlihhjldkopfhaa
