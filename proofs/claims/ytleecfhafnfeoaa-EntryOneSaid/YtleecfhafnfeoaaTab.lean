/- The types of the program, as a table. -/
import Derived.Test.YtleecfhafnfeoaaProg
import Derived.Test.YtleecfhafnfeoaaRk3
namespace Go.Proofs.Ytleecfhafnfeoaa
open Go.RowKit

def ti2 : Ti := ⟨.int .i64, .int .i64 0, 1, 8, []⟩
theorem ti2_ok : Ti.of Try.prog 2 ti2 := ⟨by kernel_rfl, by kernel_rfl, by kernel_rfl⟩
def ti3 : Ti := ⟨.int .i64, .int .i64 0, 1, 8, []⟩
theorem ti3_ok : Ti.of Try.prog 3 ti3 := ⟨by kernel_rfl, by kernel_rfl, by kernel_rfl⟩
def ti4 : Ti := ⟨.bool, .bool false, 1, 1, []⟩
theorem ti4_ok : Ti.of Try.prog 4 ti4 := ⟨by kernel_rfl, by kernel_rfl, by kernel_rfl⟩
def ti5 : Ti := ⟨.int .u8, .int .u8 0, 1, 1, []⟩
theorem ti5_ok : Ti.of Try.prog 5 ti5 := ⟨by kernel_rfl, by kernel_rfl, by kernel_rfl⟩
def ti7 : Ti := ⟨.struct #[⟨"x", 2, 0, false, "", "runtime", 0⟩, ⟨"y", 3, 1, false, "", "runtime", 8⟩, ⟨"signed", 4, 2, false, "", "runtime", 16⟩, ⟨"code", 6, 3, false, "", "runtime", 17⟩], .agg #[.int .i64 0, .int .i64 0, .bool false, .int .u8 0], 4, 24, [(0, 2), (1, 3), (2, 4), (3, 6)]⟩
theorem ti7_ok : Ti.of Try.prog 7 ti7 := ⟨by kernel_rfl, by kernel_rfl, by kernel_rfl⟩
def ti9 : Ti := ⟨.string, .string ByteArray.empty, 1, 16, []⟩
theorem ti9_ok : Ti.of Try.prog 9 ti9 := ⟨by kernel_rfl, by kernel_rfl, by kernel_rfl⟩
def ti12 : Ti := ⟨.int .u64, .int .u64 0, 1, 8, []⟩
theorem ti12_ok : Ti.of Try.prog 12 ti12 := ⟨by kernel_rfl, by kernel_rfl, by kernel_rfl⟩
def ti13 : Ti := ⟨.struct #[⟨"msg", 9, 0, false, "", "runtime", 0⟩, ⟨"addr", 12, 1, false, "", "runtime", 16⟩], .agg #[.string ByteArray.empty, .int .u64 0], 2, 24, [(0, 9), (1, 12)]⟩
theorem ti13_ok : Ti.of Try.prog 13 ti13 := ⟨by kernel_rfl, by kernel_rfl, by kernel_rfl⟩
def ti21 : Ti := ⟨.int .i32, .int .i32 0, 1, 4, []⟩
theorem ti21_ok : Ti.of Try.prog 21 ti21 := ⟨by kernel_rfl, by kernel_rfl, by kernel_rfl⟩
def ti22 : Ti := ⟨.int .u32, .int .u32 0, 1, 4, []⟩
theorem ti22_ok : Ti.of Try.prog 22 ti22 := ⟨by kernel_rfl, by kernel_rfl, by kernel_rfl⟩
def ti23 : Ti := ⟨.array 32 5, .agg #[.int .u8 0, .int .u8 0, .int .u8 0, .int .u8 0, .int .u8 0, .int .u8 0, .int .u8 0, .int .u8 0, .int .u8 0, .int .u8 0, .int .u8 0, .int .u8 0, .int .u8 0, .int .u8 0, .int .u8 0, .int .u8 0, .int .u8 0, .int .u8 0, .int .u8 0, .int .u8 0, .int .u8 0, .int .u8 0, .int .u8 0, .int .u8 0, .int .u8 0, .int .u8 0, .int .u8 0, .int .u8 0, .int .u8 0, .int .u8 0, .int .u8 0, .int .u8 0], 32, 32, []⟩
theorem ti23_ok : Ti.of Try.prog 23 ti23 := ⟨by kernel_rfl, by kernel_rfl, by kernel_rfl⟩
def ti24 : Ti := ⟨.array 32 5, .agg #[.int .u8 0, .int .u8 0, .int .u8 0, .int .u8 0, .int .u8 0, .int .u8 0, .int .u8 0, .int .u8 0, .int .u8 0, .int .u8 0, .int .u8 0, .int .u8 0, .int .u8 0, .int .u8 0, .int .u8 0, .int .u8 0, .int .u8 0, .int .u8 0, .int .u8 0, .int .u8 0, .int .u8 0, .int .u8 0, .int .u8 0, .int .u8 0, .int .u8 0, .int .u8 0, .int .u8 0, .int .u8 0, .int .u8 0, .int .u8 0, .int .u8 0, .int .u8 0], 32, 32, []⟩
theorem ti24_ok : Ti.of Try.prog 24 ti24 := ⟨by kernel_rfl, by kernel_rfl, by kernel_rfl⟩
def ti25 : Ti := ⟨.slice 5, .slice none 0 0, 1, 24, []⟩
theorem ti25_ok : Ti.of Try.prog 25 ti25 := ⟨by kernel_rfl, by kernel_rfl, by kernel_rfl⟩
def ti26 : Ti := ⟨.struct #[⟨"Kind", 3, 0, false, "", "", 0⟩, ⟨"Client", 3, 1, false, "", "", 8⟩, ⟨"Seq", 22, 2, false, "", "", 16⟩, ⟨"Branch", 9, 3, false, "", "", 24⟩, ⟨"Old", 24, 4, false, "", "", 40⟩, ⟨"New", 24, 36, false, "", "", 72⟩, ⟨"Data", 25, 68, false, "", "", 104⟩], .agg #[.int .i64 0, .int .i64 0, .int .u32 0, .string ByteArray.empty, .int .u8 0, .int .u8 0, .int .u8 0, .int .u8 0, .int .u8 0, .int .u8 0, .int .u8 0, .int .u8 0, .int .u8 0, .int .u8 0, .int .u8 0, .int .u8 0, .int .u8 0, .int .u8 0, .int .u8 0, .int .u8 0, .int .u8 0, .int .u8 0, .int .u8 0, .int .u8 0, .int .u8 0, .int .u8 0, .int .u8 0, .int .u8 0, .int .u8 0, .int .u8 0, .int .u8 0, .int .u8 0, .int .u8 0, .int .u8 0, .int .u8 0, .int .u8 0, .int .u8 0, .int .u8 0, .int .u8 0, .int .u8 0, .int .u8 0, .int .u8 0, .int .u8 0, .int .u8 0, .int .u8 0, .int .u8 0, .int .u8 0, .int .u8 0, .int .u8 0, .int .u8 0, .int .u8 0, .int .u8 0, .int .u8 0, .int .u8 0, .int .u8 0, .int .u8 0, .int .u8 0, .int .u8 0, .int .u8 0, .int .u8 0, .int .u8 0, .int .u8 0, .int .u8 0, .int .u8 0, .int .u8 0, .int .u8 0, .int .u8 0, .int .u8 0, .slice none 0 0], 69, 128, [(0, 3), (1, 3), (2, 22), (3, 9), (4, 24), (36, 24), (68, 25)]⟩
theorem ti26_ok : Ti.of Try.prog 26 ti26 := ⟨by kernel_rfl, by kernel_rfl, by kernel_rfl⟩
def ti27 : Ti := ⟨.struct #[⟨"Kind", 3, 0, false, "", "", 0⟩, ⟨"Client", 3, 1, false, "", "", 8⟩, ⟨"Seq", 22, 2, false, "", "", 16⟩, ⟨"Branch", 9, 3, false, "", "", 24⟩, ⟨"Old", 24, 4, false, "", "", 40⟩, ⟨"New", 24, 36, false, "", "", 72⟩, ⟨"Data", 25, 68, false, "", "", 104⟩], .agg #[.int .i64 0, .int .i64 0, .int .u32 0, .string ByteArray.empty, .int .u8 0, .int .u8 0, .int .u8 0, .int .u8 0, .int .u8 0, .int .u8 0, .int .u8 0, .int .u8 0, .int .u8 0, .int .u8 0, .int .u8 0, .int .u8 0, .int .u8 0, .int .u8 0, .int .u8 0, .int .u8 0, .int .u8 0, .int .u8 0, .int .u8 0, .int .u8 0, .int .u8 0, .int .u8 0, .int .u8 0, .int .u8 0, .int .u8 0, .int .u8 0, .int .u8 0, .int .u8 0, .int .u8 0, .int .u8 0, .int .u8 0, .int .u8 0, .int .u8 0, .int .u8 0, .int .u8 0, .int .u8 0, .int .u8 0, .int .u8 0, .int .u8 0, .int .u8 0, .int .u8 0, .int .u8 0, .int .u8 0, .int .u8 0, .int .u8 0, .int .u8 0, .int .u8 0, .int .u8 0, .int .u8 0, .int .u8 0, .int .u8 0, .int .u8 0, .int .u8 0, .int .u8 0, .int .u8 0, .int .u8 0, .int .u8 0, .int .u8 0, .int .u8 0, .int .u8 0, .int .u8 0, .int .u8 0, .int .u8 0, .int .u8 0, .slice none 0 0], 69, 128, [(0, 3), (1, 3), (2, 22), (3, 9), (4, 24), (36, 24), (68, 25)]⟩
theorem ti27_ok : Ti.of Try.prog 27 ti27 := ⟨by kernel_rfl, by kernel_rfl, by kernel_rfl⟩
def ti30 : Ti := ⟨.int .i64, .int .i64 0, 1, 8, []⟩
theorem ti30_ok : Ti.of Try.prog 30 ti30 := ⟨by kernel_rfl, by kernel_rfl, by kernel_rfl⟩
def ti44 : Ti := ⟨.int .u16, .int .u16 0, 1, 2, []⟩
theorem ti44_ok : Ti.of Try.prog 44 ti44 := ⟨by kernel_rfl, by kernel_rfl, by kernel_rfl⟩
def ti48 : Ti := ⟨.int .u64, .int .u64 0, 1, 8, []⟩
theorem ti48_ok : Ti.of Try.prog 48 ti48 := ⟨by kernel_rfl, by kernel_rfl, by kernel_rfl⟩
def ti49 : Ti := ⟨.pointer 64, .pointer none, 1, 8, []⟩
theorem ti49_ok : Ti.of Try.prog 49 ti49 := ⟨by kernel_rfl, by kernel_rfl, by kernel_rfl⟩
def ti61 : Ti := ⟨.struct #[⟨"there", 25, 0, false, "", "confluence/octet", 0⟩, ⟨"why", 30, 1, false, "", "confluence/octet", 24⟩], .agg #[.slice none 0 0, .int .i64 0], 2, 32, [(0, 25), (1, 30)]⟩
theorem ti61_ok : Ti.of Try.prog 61 ti61 := ⟨by kernel_rfl, by kernel_rfl, by kernel_rfl⟩
def ti62 : Ti := ⟨.struct #[⟨"there", 25, 0, false, "", "confluence/octet", 0⟩, ⟨"why", 30, 1, false, "", "confluence/octet", 24⟩], .agg #[.slice none 0 0, .int .i64 0], 2, 32, [(0, 25), (1, 30)]⟩
theorem ti62_ok : Ti.of Try.prog 62 ti62 := ⟨by kernel_rfl, by kernel_rfl, by kernel_rfl⟩
def ti63 : Ti := ⟨.struct #[⟨"rest", 62, 0, true, "", "confluence/octet", 0⟩], .agg #[.slice none 0 0, .int .i64 0], 2, 32, [(0, 62)]⟩
theorem ti63_ok : Ti.of Try.prog 63 ti63 := ⟨by kernel_rfl, by kernel_rfl, by kernel_rfl⟩
def ti64 : Ti := ⟨.struct #[⟨"rest", 62, 0, true, "", "confluence/octet", 0⟩], .agg #[.slice none 0 0, .int .i64 0], 2, 32, [(0, 62)]⟩
theorem ti64_ok : Ti.of Try.prog 64 ti64 := ⟨by kernel_rfl, by kernel_rfl, by kernel_rfl⟩
def ti68 : Ti := ⟨.int .u64, .int .u64 0, 1, 8, []⟩
theorem ti68_ok : Ti.of Try.prog 68 ti68 := ⟨by kernel_rfl, by kernel_rfl, by kernel_rfl⟩
def ti70 : Ti := ⟨.struct #[⟨"_interface", 17, 0, false, "", "runtime", 0⟩, ⟨"concrete", 17, 1, false, "", "runtime", 8⟩, ⟨"asserted", 17, 2, false, "", "runtime", 16⟩, ⟨"missingMethod", 9, 3, false, "", "runtime", 24⟩], .agg #[.pointer none, .pointer none, .pointer none, .string ByteArray.empty], 4, 40, [(0, 17), (1, 17), (2, 17), (3, 9)]⟩
theorem ti70_ok : Ti.of Try.prog 70 ti70 := ⟨by kernel_rfl, by kernel_rfl, by kernel_rfl⟩
def ti72 : Ti := ⟨.array 0 16, .agg #[], 0, 0, []⟩
theorem ti72_ok : Ti.of Try.prog 72 ti72 := ⟨by kernel_rfl, by kernel_rfl, by kernel_rfl⟩
def ti73 : Ti := ⟨.struct #[⟨"_", 72, 0, false, "", "runtime", 0⟩], .agg #[], 0, 0, [(0, 72)]⟩
theorem ti73_ok : Ti.of Try.prog 73 ti73 := ⟨by kernel_rfl, by kernel_rfl, by kernel_rfl⟩
def ti78 : Ti := ⟨.pointer 5, .pointer none, 1, 8, []⟩
theorem ti78_ok : Ti.of Try.prog 78 ti78 := ⟨by kernel_rfl, by kernel_rfl, by kernel_rfl⟩
def ti81 : Ti := ⟨.struct #[⟨"Size_", 12, 0, false, "", "", 0⟩, ⟨"PtrBytes", 12, 1, false, "", "", 8⟩, ⟨"Hash", 22, 2, false, "", "", 16⟩, ⟨"TFlag", 75, 3, false, "", "", 20⟩, ⟨"Align_", 5, 4, false, "", "", 21⟩, ⟨"FieldAlign_", 5, 5, false, "", "", 22⟩, ⟨"Kind_", 76, 6, false, "", "", 23⟩, ⟨"Equal", 77, 7, false, "", "", 24⟩, ⟨"GCData", 78, 8, false, "", "", 32⟩, ⟨"Str", 79, 9, false, "", "", 40⟩, ⟨"PtrToThis", 80, 10, false, "", "", 44⟩], .agg #[.int .u64 0, .int .u64 0, .int .u32 0, .int .u8 0, .int .u8 0, .int .u8 0, .int .u8 0, .nilFunc, .pointer none, .int .i32 0, .int .i32 0], 11, 48, [(0, 12), (1, 12), (2, 22), (3, 75), (4, 5), (5, 5), (6, 76), (7, 77), (8, 78), (9, 79), (10, 80)]⟩
theorem ti81_ok : Ti.of Try.prog 81 ti81 := ⟨by kernel_rfl, by kernel_rfl, by kernel_rfl⟩
def tabs : List (Nat × Ti) := [(2, ti2), (3, ti3), (4, ti4), (5, ti5), (7, ti7), (9, ti9), (12, ti12), (13, ti13), (21, ti21), (22, ti22), (23, ti23), (24, ti24), (25, ti25), (26, ti26), (27, ti27), (30, ti30), (44, ti44), (48, ti48), (49, ti49), (61, ti61), (62, ti62), (63, ti63), (64, ti64), (68, ti68), (70, ti70), (72, ti72), (73, ti73), (78, ti78), (81, ti81)]
instance : HasTab Try.prog := ⟨tabs, ⟨ti2_ok, ⟨ti3_ok, ⟨ti4_ok, ⟨ti5_ok, ⟨ti7_ok, ⟨ti9_ok, ⟨ti12_ok, ⟨ti13_ok, ⟨ti21_ok, ⟨ti22_ok, ⟨ti23_ok, ⟨ti24_ok, ⟨ti25_ok, ⟨ti26_ok, ⟨ti27_ok, ⟨ti30_ok, ⟨ti44_ok, ⟨ti48_ok, ⟨ti49_ok, ⟨ti61_ok, ⟨ti62_ok, ⟨ti63_ok, ⟨ti64_ok, ⟨ti68_ok, ⟨ti70_ok, ⟨ti72_ok, ⟨ti73_ok, ⟨ti78_ok, ⟨ti81_ok, trivial⟩⟩⟩⟩⟩⟩⟩⟩⟩⟩⟩⟩⟩⟩⟩⟩⟩⟩⟩⟩⟩⟩⟩⟩⟩⟩⟩⟩⟩⟩
end Go.Proofs.Ytleecfhafnfeoaa
