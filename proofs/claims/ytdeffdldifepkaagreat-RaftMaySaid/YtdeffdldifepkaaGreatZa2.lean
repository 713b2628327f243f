/- Lemmas of the proof, part 2. -/
import Derived.Test.YtdeffdldifepkaaGreatProg
import Derived.Deep.QuietTactic
import Derived.BigQuiet
import Derived.ProofKit
import Derived.OpenShut
import Derived.ShutString
import Derived.ChangeOld
import Derived.Laws.StructEq
import Derived.Test.YtdeffdldifepkaaGreatZa1
namespace Go.Proofs.YtdeffdldifepkaaGreat
open Go.RowKit

def ti1 : Ti := ⟨.func #[] #[] false, .nilFunc, 1, 8, []⟩
theorem ti1_ok : Ti.of Tryz.prog 1 ti1 := ⟨by kernel_rfl, by kernel_rfl, by kernel_rfl⟩
def ti2 : Ti := ⟨.int .i64, .int .i64 0, 1, 8, []⟩
theorem ti2_ok : Ti.of Tryz.prog 2 ti2 := ⟨by kernel_rfl, by kernel_rfl, by kernel_rfl⟩
def ti3 : Ti := ⟨.int .i64, .int .i64 0, 1, 8, []⟩
theorem ti3_ok : Ti.of Tryz.prog 3 ti3 := ⟨by kernel_rfl, by kernel_rfl, by kernel_rfl⟩
def ti4 : Ti := ⟨.bool, .bool false, 1, 1, []⟩
theorem ti4_ok : Ti.of Tryz.prog 4 ti4 := ⟨by kernel_rfl, by kernel_rfl, by kernel_rfl⟩
def ti5 : Ti := ⟨.int .u8, .int .u8 0, 1, 1, []⟩
theorem ti5_ok : Ti.of Tryz.prog 5 ti5 := ⟨by kernel_rfl, by kernel_rfl, by kernel_rfl⟩
def ti7 : Ti := ⟨.struct #[⟨"x", 2, 0, false, "", "runtime", 0⟩, ⟨"y", 3, 1, false, "", "runtime", 8⟩, ⟨"signed", 4, 2, false, "", "runtime", 16⟩, ⟨"code", 6, 3, false, "", "runtime", 17⟩], .agg #[.int .i64 0, .int .i64 0, .bool false, .int .u8 0], 4, 24, [(0, 2), (1, 3), (2, 4), (3, 6)]⟩
theorem ti7_ok : Ti.of Tryz.prog 7 ti7 := ⟨by kernel_rfl, by kernel_rfl, by kernel_rfl⟩
def ti9 : Ti := ⟨.string, .string ByteArray.empty, 1, 16, []⟩
theorem ti9_ok : Ti.of Tryz.prog 9 ti9 := ⟨by kernel_rfl, by kernel_rfl, by kernel_rfl⟩
def ti12 : Ti := ⟨.int .u64, .int .u64 0, 1, 8, []⟩
theorem ti12_ok : Ti.of Tryz.prog 12 ti12 := ⟨by kernel_rfl, by kernel_rfl, by kernel_rfl⟩
def ti13 : Ti := ⟨.struct #[⟨"msg", 9, 0, false, "", "runtime", 0⟩, ⟨"addr", 12, 1, false, "", "runtime", 16⟩], .agg #[.string ByteArray.empty, .int .u64 0], 2, 24, [(0, 9), (1, 12)]⟩
theorem ti13_ok : Ti.of Tryz.prog 13 ti13 := ⟨by kernel_rfl, by kernel_rfl, by kernel_rfl⟩
def ti21 : Ti := ⟨.int .i32, .int .i32 0, 1, 4, []⟩
theorem ti21_ok : Ti.of Tryz.prog 21 ti21 := ⟨by kernel_rfl, by kernel_rfl, by kernel_rfl⟩
def ti22 : Ti := ⟨.slice 48, .slice none 0 0, 1, 24, []⟩
theorem ti22_ok : Ti.of Tryz.prog 22 ti22 := ⟨by kernel_rfl, by kernel_rfl, by kernel_rfl⟩
def ti23 : Ti := ⟨.func #[] #[4] false, .nilFunc, 1, 8, []⟩
theorem ti23_ok : Ti.of Tryz.prog 23 ti23 := ⟨by kernel_rfl, by kernel_rfl, by kernel_rfl⟩
def ti24 : Ti := ⟨.pointer 30, .pointer none, 1, 8, []⟩
theorem ti24_ok : Ti.of Tryz.prog 24 ti24 := ⟨by kernel_rfl, by kernel_rfl, by kernel_rfl⟩
def ti25 : Ti := ⟨.map 34 3, .map none, 1, 8, []⟩
theorem ti25_ok : Ti.of Tryz.prog 25 ti25 := ⟨by kernel_rfl, by kernel_rfl, by kernel_rfl⟩
def ti26 : Ti := ⟨.map 34 59, .map none, 1, 8, []⟩
theorem ti26_ok : Ti.of Tryz.prog 26 ti26 := ⟨by kernel_rfl, by kernel_rfl, by kernel_rfl⟩
def ti27 : Ti := ⟨.slice 42, .slice none 0 0, 1, 24, []⟩
theorem ti27_ok : Ti.of Tryz.prog 27 ti27 := ⟨by kernel_rfl, by kernel_rfl, by kernel_rfl⟩
def ti28 : Ti := ⟨.slice 65, .slice none 0 0, 1, 24, []⟩
theorem ti28_ok : Ti.of Tryz.prog 28 ti28 := ⟨by kernel_rfl, by kernel_rfl, by kernel_rfl⟩
def ti29 : Ti := ⟨.struct #[⟨"nodes", 27, 0, false, "", "confluence/confluencelaw15", 0⟩, ⟨"way", 28, 1, false, "", "confluence/confluencelaw15", 24⟩, ⟨"leaders", 25, 2, false, "", "confluence/confluencelaw15", 48⟩, ⟨"settled", 26, 3, false, "", "confluence/confluencelaw15", 56⟩], .agg #[.slice none 0 0, .slice none 0 0, .map none, .map none], 4, 64, [(0, 27), (1, 28), (2, 25), (3, 26)]⟩
theorem ti29_ok : Ti.of Tryz.prog 29 ti29 := ⟨by kernel_rfl, by kernel_rfl, by kernel_rfl⟩
def ti30 : Ti := ⟨.struct #[⟨"nodes", 27, 0, false, "", "confluence/confluencelaw15", 0⟩, ⟨"way", 28, 1, false, "", "confluence/confluencelaw15", 24⟩, ⟨"leaders", 25, 2, false, "", "confluence/confluencelaw15", 48⟩, ⟨"settled", 26, 3, false, "", "confluence/confluencelaw15", 56⟩], .agg #[.slice none 0 0, .slice none 0 0, .map none, .map none], 4, 64, [(0, 27), (1, 28), (2, 25), (3, 26)]⟩
theorem ti30_ok : Ti.of Tryz.prog 30 ti30 := ⟨by kernel_rfl, by kernel_rfl, by kernel_rfl⟩
def ti31 : Ti := ⟨.slice 3, .slice none 0 0, 1, 24, []⟩
theorem ti31_ok : Ti.of Tryz.prog 31 ti31 := ⟨by kernel_rfl, by kernel_rfl, by kernel_rfl⟩
def ti32 : Ti := ⟨.struct #[⟨"Members", 31, 0, false, "", "", 0⟩], .agg #[.slice none 0 0], 1, 24, [(0, 31)]⟩
theorem ti32_ok : Ti.of Tryz.prog 32 ti32 := ⟨by kernel_rfl, by kernel_rfl, by kernel_rfl⟩
def ti33 : Ti := ⟨.struct #[⟨"Members", 31, 0, false, "", "", 0⟩], .agg #[.slice none 0 0], 1, 24, [(0, 31)]⟩
theorem ti33_ok : Ti.of Tryz.prog 33 ti33 := ⟨by kernel_rfl, by kernel_rfl, by kernel_rfl⟩
def ti34 : Ti := ⟨.int .u64, .int .u64 0, 1, 8, []⟩
theorem ti34_ok : Ti.of Tryz.prog 34 ti34 := ⟨by kernel_rfl, by kernel_rfl, by kernel_rfl⟩
def ti35 : Ti := ⟨.struct #[⟨"Index", 34, 0, false, "", "", 0⟩, ⟨"Term", 34, 1, false, "", "", 8⟩], .agg #[.int .u64 0, .int .u64 0], 2, 16, [(0, 34), (1, 34)]⟩
theorem ti35_ok : Ti.of Tryz.prog 35 ti35 := ⟨by kernel_rfl, by kernel_rfl, by kernel_rfl⟩
def ti36 : Ti := ⟨.struct #[⟨"Index", 34, 0, false, "", "", 0⟩, ⟨"Term", 34, 1, false, "", "", 8⟩], .agg #[.int .u64 0, .int .u64 0], 2, 16, [(0, 34), (1, 34)]⟩
theorem ti36_ok : Ti.of Tryz.prog 36 ti36 := ⟨by kernel_rfl, by kernel_rfl, by kernel_rfl⟩
def ti37 : Ti := ⟨.slice 59, .slice none 0 0, 1, 24, []⟩
theorem ti37_ok : Ti.of Tryz.prog 37 ti37 := ⟨by kernel_rfl, by kernel_rfl, by kernel_rfl⟩
def ti38 : Ti := ⟨.struct #[⟨"Base", 36, 0, false, "", "", 0⟩, ⟨"Entries", 37, 2, false, "", "", 16⟩], .agg #[.int .u64 0, .int .u64 0, .slice none 0 0], 3, 40, [(0, 36), (2, 37)]⟩
theorem ti38_ok : Ti.of Tryz.prog 38 ti38 := ⟨by kernel_rfl, by kernel_rfl, by kernel_rfl⟩
def ti39 : Ti := ⟨.struct #[⟨"Base", 36, 0, false, "", "", 0⟩, ⟨"Entries", 37, 2, false, "", "", 16⟩], .agg #[.int .u64 0, .int .u64 0, .slice none 0 0], 3, 40, [(0, 36), (2, 37)]⟩
theorem ti39_ok : Ti.of Tryz.prog 39 ti39 := ⟨by kernel_rfl, by kernel_rfl, by kernel_rfl⟩
def ti40 : Ti := ⟨.slice 112, .slice none 0 0, 1, 24, []⟩
theorem ti40_ok : Ti.of Tryz.prog 40 ti40 := ⟨by kernel_rfl, by kernel_rfl, by kernel_rfl⟩
def ti41 : Ti := ⟨.struct #[⟨"Me", 3, 0, false, "", "", 0⟩, ⟨"Term", 34, 1, false, "", "", 8⟩, ⟨"Vote", 3, 2, false, "", "", 16⟩, ⟨"Log", 39, 3, false, "", "", 24⟩, ⟨"Conf", 33, 6, false, "", "", 64⟩, ⟨"Commit", 34, 7, false, "", "", 88⟩, ⟨"Role", 3, 8, false, "", "", 96⟩, ⟨"Leader", 3, 9, false, "", "", 104⟩, ⟨"Clock", 3, 10, false, "", "", 112⟩, ⟨"Limit", 3, 11, false, "", "", 120⟩, ⟨"Votes", 31, 12, false, "", "", 128⟩, ⟨"Peers", 40, 13, false, "", "", 152⟩], .agg #[.int .i64 0, .int .u64 0, .int .i64 0, .int .u64 0, .int .u64 0, .slice none 0 0, .slice none 0 0, .int .u64 0, .int .i64 0, .int .i64 0, .int .i64 0, .int .i64 0, .slice none 0 0, .slice none 0 0], 14, 176, [(0, 3), (1, 34), (2, 3), (3, 39), (6, 33), (7, 34), (8, 3), (9, 3), (10, 3), (11, 3), (12, 31), (13, 40)]⟩
theorem ti41_ok : Ti.of Tryz.prog 41 ti41 := ⟨by kernel_rfl, by kernel_rfl, by kernel_rfl⟩
def ti42 : Ti := ⟨.struct #[⟨"Me", 3, 0, false, "", "", 0⟩, ⟨"Term", 34, 1, false, "", "", 8⟩, ⟨"Vote", 3, 2, false, "", "", 16⟩, ⟨"Log", 39, 3, false, "", "", 24⟩, ⟨"Conf", 33, 6, false, "", "", 64⟩, ⟨"Commit", 34, 7, false, "", "", 88⟩, ⟨"Role", 3, 8, false, "", "", 96⟩, ⟨"Leader", 3, 9, false, "", "", 104⟩, ⟨"Clock", 3, 10, false, "", "", 112⟩, ⟨"Limit", 3, 11, false, "", "", 120⟩, ⟨"Votes", 31, 12, false, "", "", 128⟩, ⟨"Peers", 40, 13, false, "", "", 152⟩], .agg #[.int .i64 0, .int .u64 0, .int .i64 0, .int .u64 0, .int .u64 0, .slice none 0 0, .slice none 0 0, .int .u64 0, .int .i64 0, .int .i64 0, .int .i64 0, .int .i64 0, .slice none 0 0, .slice none 0 0], 14, 176, [(0, 3), (1, 34), (2, 3), (3, 39), (6, 33), (7, 34), (8, 3), (9, 3), (10, 3), (11, 3), (12, 31), (13, 40)]⟩
theorem ti42_ok : Ti.of Tryz.prog 42 ti42 := ⟨by kernel_rfl, by kernel_rfl, by kernel_rfl⟩
def ti43 : Ti := ⟨.int .i64, .int .i64 0, 1, 8, []⟩
theorem ti43_ok : Ti.of Tryz.prog 43 ti43 := ⟨by kernel_rfl, by kernel_rfl, by kernel_rfl⟩
def ti45 : Ti := ⟨.func #[3, 34, 3, 39, 33, 3] #[42, 43] false, .nilFunc, 1, 8, []⟩
theorem ti45_ok : Ti.of Tryz.prog 45 ti45 := ⟨by kernel_rfl, by kernel_rfl, by kernel_rfl⟩
def ti46 : Ti := ⟨.slice 5, .slice none 0 0, 1, 24, []⟩
theorem ti46_ok : Ti.of Tryz.prog 46 ti46 := ⟨by kernel_rfl, by kernel_rfl, by kernel_rfl⟩
def ti47 : Ti := ⟨.struct #[⟨"Kind", 3, 0, false, "", "", 0⟩, ⟨"Node", 3, 1, false, "", "", 8⟩, ⟨"N", 3, 2, false, "", "", 16⟩, ⟨"Data", 46, 3, false, "", "", 24⟩], .agg #[.int .i64 0, .int .i64 0, .int .i64 0, .slice none 0 0], 4, 48, [(0, 3), (1, 3), (2, 3), (3, 46)]⟩
theorem ti47_ok : Ti.of Tryz.prog 47 ti47 := ⟨by kernel_rfl, by kernel_rfl, by kernel_rfl⟩
def ti48 : Ti := ⟨.struct #[⟨"Kind", 3, 0, false, "", "", 0⟩, ⟨"Node", 3, 1, false, "", "", 8⟩, ⟨"N", 3, 2, false, "", "", 16⟩, ⟨"Data", 46, 3, false, "", "", 24⟩], .agg #[.int .i64 0, .int .i64 0, .int .i64 0, .slice none 0 0], 4, 48, [(0, 3), (1, 3), (2, 3), (3, 46)]⟩
theorem ti48_ok : Ti.of Tryz.prog 48 ti48 := ⟨by kernel_rfl, by kernel_rfl, by kernel_rfl⟩
def ti49 : Ti := ⟨.func #[48] #[4] false, .nilFunc, 1, 8, []⟩
theorem ti49_ok : Ti.of Tryz.prog 49 ti49 := ⟨by kernel_rfl, by kernel_rfl, by kernel_rfl⟩
def ti50 : Ti := ⟨.func #[3, 22] #[4] false, .nilFunc, 1, 8, []⟩
theorem ti50_ok : Ti.of Tryz.prog 50 ti50 := ⟨by kernel_rfl, by kernel_rfl, by kernel_rfl⟩
def ti52 : Ti := ⟨.func #[42, 3] #[42, 28, 43] false, .nilFunc, 1, 8, []⟩
theorem ti52_ok : Ti.of Tryz.prog 52 ti52 := ⟨by kernel_rfl, by kernel_rfl, by kernel_rfl⟩
def ti53 : Ti := ⟨.func #[3, 42, 28] #[4] false, .nilFunc, 1, 8, []⟩
theorem ti53_ok : Ti.of Tryz.prog 53 ti53 := ⟨by kernel_rfl, by kernel_rfl, by kernel_rfl⟩
def ti54 : Ti := ⟨.func #[3] #[4] false, .nilFunc, 1, 8, []⟩
theorem ti54_ok : Ti.of Tryz.prog 54 ti54 := ⟨by kernel_rfl, by kernel_rfl, by kernel_rfl⟩
def ti56 : Ti := ⟨.func #[42, 3, 46] #[42, 28, 36, 43] false, .nilFunc, 1, 8, []⟩
theorem ti56_ok : Ti.of Tryz.prog 56 ti56 := ⟨by kernel_rfl, by kernel_rfl, by kernel_rfl⟩
def ti57 : Ti := ⟨.func #[59, 59] #[4] false, .nilFunc, 1, 8, []⟩
theorem ti57_ok : Ti.of Tryz.prog 57 ti57 := ⟨by kernel_rfl, by kernel_rfl, by kernel_rfl⟩
def ti58 : Ti := ⟨.struct #[⟨"Term", 34, 0, false, "", "", 0⟩, ⟨"Kind", 3, 1, false, "", "", 8⟩, ⟨"Data", 46, 2, false, "", "", 16⟩], .agg #[.int .u64 0, .int .i64 0, .slice none 0 0], 3, 40, [(0, 34), (1, 3), (2, 46)]⟩
theorem ti58_ok : Ti.of Tryz.prog 58 ti58 := ⟨by kernel_rfl, by kernel_rfl, by kernel_rfl⟩
def ti59 : Ti := ⟨.struct #[⟨"Term", 34, 0, false, "", "", 0⟩, ⟨"Kind", 3, 1, false, "", "", 8⟩, ⟨"Data", 46, 2, false, "", "", 16⟩], .agg #[.int .u64 0, .int .i64 0, .slice none 0 0], 3, 40, [(0, 34), (1, 3), (2, 46)]⟩
theorem ti59_ok : Ti.of Tryz.prog 59 ti59 := ⟨by kernel_rfl, by kernel_rfl, by kernel_rfl⟩
def ti60 : Ti := ⟨.func #[3, 31, 46] #[4] false, .nilFunc, 1, 8, []⟩
theorem ti60_ok : Ti.of Tryz.prog 60 ti60 := ⟨by kernel_rfl, by kernel_rfl, by kernel_rfl⟩
def ti61 : Ti := ⟨.func #[42] #[4] false, .nilFunc, 1, 8, []⟩
theorem ti61_ok : Ti.of Tryz.prog 61 ti61 := ⟨by kernel_rfl, by kernel_rfl, by kernel_rfl⟩
def ti62 : Ti := ⟨.func #[42] #[42] false, .nilFunc, 1, 8, []⟩
theorem ti62_ok : Ti.of Tryz.prog 62 ti62 := ⟨by kernel_rfl, by kernel_rfl, by kernel_rfl⟩
def ti63 : Ti := ⟨.func #[42, 42] #[4] false, .nilFunc, 1, 8, []⟩
theorem ti63_ok : Ti.of Tryz.prog 63 ti63 := ⟨by kernel_rfl, by kernel_rfl, by kernel_rfl⟩
def ti64 : Ti := ⟨.struct #[⟨"Kind", 3, 0, false, "", "", 0⟩, ⟨"From", 3, 1, false, "", "", 8⟩, ⟨"To", 3, 2, false, "", "", 16⟩, ⟨"Term", 34, 3, false, "", "", 24⟩, ⟨"Place", 36, 4, false, "", "", 32⟩, ⟨"Entries", 37, 6, false, "", "", 48⟩, ⟨"Commit", 34, 7, false, "", "", 72⟩, ⟨"Ok", 4, 8, false, "", "", 80⟩, ⟨"Index", 34, 9, false, "", "", 88⟩, ⟨"Conf", 33, 10, false, "", "", 96⟩, ⟨"Data", 46, 11, false, "", "", 120⟩], .agg #[.int .i64 0, .int .i64 0, .int .i64 0, .int .u64 0, .int .u64 0, .int .u64 0, .slice none 0 0, .int .u64 0, .bool false, .int .u64 0, .slice none 0 0, .slice none 0 0], 12, 144, [(0, 3), (1, 3), (2, 3), (3, 34), (4, 36), (6, 37), (7, 34), (8, 4), (9, 34), (10, 33), (11, 46)]⟩
theorem ti64_ok : Ti.of Tryz.prog 64 ti64 := ⟨by kernel_rfl, by kernel_rfl, by kernel_rfl⟩
def ti65 : Ti := ⟨.struct #[⟨"Kind", 3, 0, false, "", "", 0⟩, ⟨"From", 3, 1, false, "", "", 8⟩, ⟨"To", 3, 2, false, "", "", 16⟩, ⟨"Term", 34, 3, false, "", "", 24⟩, ⟨"Place", 36, 4, false, "", "", 32⟩, ⟨"Entries", 37, 6, false, "", "", 48⟩, ⟨"Commit", 34, 7, false, "", "", 72⟩, ⟨"Ok", 4, 8, false, "", "", 80⟩, ⟨"Index", 34, 9, false, "", "", 88⟩, ⟨"Conf", 33, 10, false, "", "", 96⟩, ⟨"Data", 46, 11, false, "", "", 120⟩], .agg #[.int .i64 0, .int .i64 0, .int .i64 0, .int .u64 0, .int .u64 0, .int .u64 0, .slice none 0 0, .int .u64 0, .bool false, .int .u64 0, .slice none 0 0, .slice none 0 0], 12, 144, [(0, 3), (1, 3), (2, 3), (3, 34), (4, 36), (6, 37), (7, 34), (8, 4), (9, 34), (10, 33), (11, 46)]⟩
theorem ti65_ok : Ti.of Tryz.prog 65 ti65 := ⟨by kernel_rfl, by kernel_rfl, by kernel_rfl⟩
def ti66 : Ti := ⟨.func #[37] #[37] false, .nilFunc, 1, 8, []⟩
theorem ti66_ok : Ti.of Tryz.prog 66 ti66 := ⟨by kernel_rfl, by kernel_rfl, by kernel_rfl⟩
def ti68 : Ti := ⟨.func #[42, 65] #[42, 28, 4, 43] false, .nilFunc, 1, 8, []⟩
theorem ti68_ok : Ti.of Tryz.prog 68 ti68 := ⟨by kernel_rfl, by kernel_rfl, by kernel_rfl⟩
def ti69 : Ti := ⟨.func #[42, 65] #[4] false, .nilFunc, 1, 8, []⟩
theorem ti69_ok : Ti.of Tryz.prog 69 ti69 := ⟨by kernel_rfl, by kernel_rfl, by kernel_rfl⟩
def ti71 : Ti := ⟨.func #[42, 65] #[42, 28, 4] false, .nilFunc, 1, 8, []⟩
theorem ti71_ok : Ti.of Tryz.prog 71 ti71 := ⟨by kernel_rfl, by kernel_rfl, by kernel_rfl⟩
def ti72 : Ti := ⟨.func #[28, 28] #[4] false, .nilFunc, 1, 8, []⟩
theorem ti72_ok : Ti.of Tryz.prog 72 ti72 := ⟨by kernel_rfl, by kernel_rfl, by kernel_rfl⟩
def ti74 : Ti := ⟨.func #[42] #[33, 43] false, .nilFunc, 1, 8, []⟩
theorem ti74_ok : Ti.of Tryz.prog 74 ti74 := ⟨by kernel_rfl, by kernel_rfl, by kernel_rfl⟩
def ti75 : Ti := ⟨.func #[42] #[43] false, .nilFunc, 1, 8, []⟩
theorem ti75_ok : Ti.of Tryz.prog 75 ti75 := ⟨by kernel_rfl, by kernel_rfl, by kernel_rfl⟩
def ti76 : Ti := ⟨.func #[33, 33] #[4] false, .nilFunc, 1, 8, []⟩
theorem ti76_ok : Ti.of Tryz.prog 76 ti76 := ⟨by kernel_rfl, by kernel_rfl, by kernel_rfl⟩
def ti77 : Ti := ⟨.func #[42] #[33] false, .nilFunc, 1, 8, []⟩
theorem ti77_ok : Ti.of Tryz.prog 77 ti77 := ⟨by kernel_rfl, by kernel_rfl, by kernel_rfl⟩
def ti78 : Ti := ⟨.func #[42, 34] #[42, 43] false, .nilFunc, 1, 8, []⟩
theorem ti78_ok : Ti.of Tryz.prog 78 ti78 := ⟨by kernel_rfl, by kernel_rfl, by kernel_rfl⟩
def ti80 : Ti := ⟨.func #[42, 34] #[42, 4] false, .nilFunc, 1, 8, []⟩
theorem ti80_ok : Ti.of Tryz.prog 80 ti80 := ⟨by kernel_rfl, by kernel_rfl, by kernel_rfl⟩
def ti81 : Ti := ⟨.func #[42, 59, 34] #[4] false, .nilFunc, 1, 8, []⟩
theorem ti81_ok : Ti.of Tryz.prog 81 ti81 := ⟨by kernel_rfl, by kernel_rfl, by kernel_rfl⟩
def ti82 : Ti := ⟨.func #[] #[33] false, .nilFunc, 1, 8, []⟩
theorem ti82_ok : Ti.of Tryz.prog 82 ti82 := ⟨by kernel_rfl, by kernel_rfl, by kernel_rfl⟩
def ti85 : Ti := ⟨.func #[39, 39] #[4] false, .nilFunc, 1, 8, []⟩
theorem ti85_ok : Ti.of Tryz.prog 85 ti85 := ⟨by kernel_rfl, by kernel_rfl, by kernel_rfl⟩
def ti86 : Ti := ⟨.func #[42, 91] #[42, 28, 4] false, .nilFunc, 1, 8, []⟩
theorem ti86_ok : Ti.of Tryz.prog 86 ti86 := ⟨by kernel_rfl, by kernel_rfl, by kernel_rfl⟩
def ti87 : Ti := ⟨.pointer 89, .pointer none, 1, 8, []⟩
theorem ti87_ok : Ti.of Tryz.prog 87 ti87 := ⟨by kernel_rfl, by kernel_rfl, by kernel_rfl⟩
def ti88 : Ti := ⟨.struct #[⟨"Raft", 42, 0, true, "", "", 0⟩, ⟨"sent", 28, 14, false, "", "confluence/raft", 176⟩, ⟨"install", 4, 15, false, "", "confluence/raft", 200⟩], .agg #[.int .i64 0, .int .u64 0, .int .i64 0, .int .u64 0, .int .u64 0, .slice none 0 0, .slice none 0 0, .int .u64 0, .int .i64 0, .int .i64 0, .int .i64 0, .int .i64 0, .slice none 0 0, .slice none 0 0, .slice none 0 0, .bool false], 16, 208, [(0, 42), (14, 28), (15, 4)]⟩
theorem ti88_ok : Ti.of Tryz.prog 88 ti88 := ⟨by kernel_rfl, by kernel_rfl, by kernel_rfl⟩
def ti89 : Ti := ⟨.struct #[⟨"Raft", 42, 0, true, "", "", 0⟩, ⟨"sent", 28, 14, false, "", "confluence/raft", 176⟩, ⟨"install", 4, 15, false, "", "confluence/raft", 200⟩], .agg #[.int .i64 0, .int .u64 0, .int .i64 0, .int .u64 0, .int .u64 0, .slice none 0 0, .slice none 0 0, .int .u64 0, .int .i64 0, .int .i64 0, .int .i64 0, .int .i64 0, .slice none 0 0, .slice none 0 0, .slice none 0 0, .bool false], 16, 208, [(0, 42), (14, 28), (15, 4)]⟩
theorem ti89_ok : Ti.of Tryz.prog 89 ti89 := ⟨by kernel_rfl, by kernel_rfl, by kernel_rfl⟩
def ti90 : Ti := ⟨.func #[33, 3] #[4] false, .nilFunc, 1, 8, []⟩
theorem ti90_ok : Ti.of Tryz.prog 90 ti90 := ⟨by kernel_rfl, by kernel_rfl, by kernel_rfl⟩
def ti91 : Ti := ⟨.func #[87] #[] false, .nilFunc, 1, 8, []⟩
theorem ti91_ok : Ti.of Tryz.prog 91 ti91 := ⟨by kernel_rfl, by kernel_rfl, by kernel_rfl⟩
def ti92 : Ti := ⟨.func #[65] #[43] false, .nilFunc, 1, 8, []⟩
theorem ti92_ok : Ti.of Tryz.prog 92 ti92 := ⟨by kernel_rfl, by kernel_rfl, by kernel_rfl⟩
def ti93 : Ti := ⟨.func #[43] #[42, 28, 36, 43] false, .nilFunc, 1, 8, []⟩
theorem ti93_ok : Ti.of Tryz.prog 93 ti93 := ⟨by kernel_rfl, by kernel_rfl, by kernel_rfl⟩
def ti94 : Ti := ⟨.func #[46] #[46] false, .nilFunc, 1, 8, []⟩
theorem ti94_ok : Ti.of Tryz.prog 94 ti94 := ⟨by kernel_rfl, by kernel_rfl, by kernel_rfl⟩
def ti96 : Ti := ⟨.func #[59] #[33, 4] false, .nilFunc, 1, 8, []⟩
theorem ti96_ok : Ti.of Tryz.prog 96 ti96 := ⟨by kernel_rfl, by kernel_rfl, by kernel_rfl⟩
def ti98 : Ti := ⟨.func #[39, 34] #[34, 46, 4] false, .nilFunc, 1, 8, []⟩
theorem ti98_ok : Ti.of Tryz.prog 98 ti98 := ⟨by kernel_rfl, by kernel_rfl, by kernel_rfl⟩
def ti99 : Ti := ⟨.func #[39] #[36] false, .nilFunc, 1, 8, []⟩
theorem ti99_ok : Ti.of Tryz.prog 99 ti99 := ⟨by kernel_rfl, by kernel_rfl, by kernel_rfl⟩
def ti101 : Ti := ⟨.func #[39, 34] #[34, 4] false, .nilFunc, 1, 8, []⟩
theorem ti101_ok : Ti.of Tryz.prog 101 ti101 := ⟨by kernel_rfl, by kernel_rfl, by kernel_rfl⟩
def ti102 : Ti := ⟨.func #[33, 33] #[43] false, .nilFunc, 1, 8, []⟩
theorem ti102_ok : Ti.of Tryz.prog 102 ti102 := ⟨by kernel_rfl, by kernel_rfl, by kernel_rfl⟩
def ti103 : Ti := ⟨.func #[42, 34] #[33] false, .nilFunc, 1, 8, []⟩
theorem ti103_ok : Ti.of Tryz.prog 103 ti103 := ⟨by kernel_rfl, by kernel_rfl, by kernel_rfl⟩
def ti105 : Ti := ⟨.func #[39, 59] #[39, 36, 43] false, .nilFunc, 1, 8, []⟩
theorem ti105_ok : Ti.of Tryz.prog 105 ti105 := ⟨by kernel_rfl, by kernel_rfl, by kernel_rfl⟩
def ti106 : Ti := ⟨.func #[54] #[] false, .nilFunc, 1, 8, []⟩
theorem ti106_ok : Ti.of Tryz.prog 106 ti106 := ⟨by kernel_rfl, by kernel_rfl, by kernel_rfl⟩
def ti107 : Ti := ⟨.func #[54] #[] false, .nilFunc, 1, 8, []⟩
theorem ti107_ok : Ti.of Tryz.prog 107 ti107 := ⟨by kernel_rfl, by kernel_rfl, by kernel_rfl⟩
def ti108 : Ti := ⟨.func #[] #[107] false, .nilFunc, 1, 8, []⟩
theorem ti108_ok : Ti.of Tryz.prog 108 ti108 := ⟨by kernel_rfl, by kernel_rfl, by kernel_rfl⟩
def ti109 : Ti := ⟨.pointer 112, .pointer none, 1, 8, []⟩
theorem ti109_ok : Ti.of Tryz.prog 109 ti109 := ⟨by kernel_rfl, by kernel_rfl, by kernel_rfl⟩
def ti110 : Ti := ⟨.func #[3] #[109] false, .nilFunc, 1, 8, []⟩
theorem ti110_ok : Ti.of Tryz.prog 110 ti110 := ⟨by kernel_rfl, by kernel_rfl, by kernel_rfl⟩
def ti111 : Ti := ⟨.struct #[⟨"Who", 3, 0, false, "", "", 0⟩, ⟨"Next", 34, 1, false, "", "", 8⟩, ⟨"Match", 34, 2, false, "", "", 16⟩], .agg #[.int .i64 0, .int .u64 0, .int .u64 0], 3, 24, [(0, 3), (1, 34), (2, 34)]⟩
theorem ti111_ok : Ti.of Tryz.prog 111 ti111 := ⟨by kernel_rfl, by kernel_rfl, by kernel_rfl⟩
def ti112 : Ti := ⟨.struct #[⟨"Who", 3, 0, false, "", "", 0⟩, ⟨"Next", 34, 1, false, "", "", 8⟩, ⟨"Match", 34, 2, false, "", "", 16⟩], .agg #[.int .i64 0, .int .u64 0, .int .u64 0], 3, 24, [(0, 3), (1, 34), (2, 34)]⟩
theorem ti112_ok : Ti.of Tryz.prog 112 ti112 := ⟨by kernel_rfl, by kernel_rfl, by kernel_rfl⟩
def ti113 : Ti := ⟨.func #[] #[36] false, .nilFunc, 1, 8, []⟩
theorem ti113_ok : Ti.of Tryz.prog 113 ti113 := ⟨by kernel_rfl, by kernel_rfl, by kernel_rfl⟩
def ti114 : Ti := ⟨.func #[3] #[] false, .nilFunc, 1, 8, []⟩
theorem ti114_ok : Ti.of Tryz.prog 114 ti114 := ⟨by kernel_rfl, by kernel_rfl, by kernel_rfl⟩
def ti115 : Ti := ⟨.func #[39] #[39] false, .nilFunc, 1, 8, []⟩
theorem ti115_ok : Ti.of Tryz.prog 115 ti115 := ⟨by kernel_rfl, by kernel_rfl, by kernel_rfl⟩
def ti116 : Ti := ⟨.func #[39] #[4] false, .nilFunc, 1, 8, []⟩
theorem ti116_ok : Ti.of Tryz.prog 116 ti116 := ⟨by kernel_rfl, by kernel_rfl, by kernel_rfl⟩
def ti117 : Ti := ⟨.func #[33] #[4] false, .nilFunc, 1, 8, []⟩
theorem ti117_ok : Ti.of Tryz.prog 117 ti117 := ⟨by kernel_rfl, by kernel_rfl, by kernel_rfl⟩
def ti118 : Ti := ⟨.func #[37] #[4] false, .nilFunc, 1, 8, []⟩
theorem ti118_ok : Ti.of Tryz.prog 118 ti118 := ⟨by kernel_rfl, by kernel_rfl, by kernel_rfl⟩
def ti119 : Ti := ⟨.func #[31, 3] #[4] false, .nilFunc, 1, 8, []⟩
theorem ti119_ok : Ti.of Tryz.prog 119 ti119 := ⟨by kernel_rfl, by kernel_rfl, by kernel_rfl⟩
def ti120 : Ti := ⟨.func #[65] #[] false, .nilFunc, 1, 8, []⟩
theorem ti120_ok : Ti.of Tryz.prog 120 ti120 := ⟨by kernel_rfl, by kernel_rfl, by kernel_rfl⟩
def ti121 : Ti := ⟨.map 3 120, .map none, 1, 8, []⟩
theorem ti121_ok : Ti.of Tryz.prog 121 ti121 := ⟨by kernel_rfl, by kernel_rfl, by kernel_rfl⟩
def ti122 : Ti := ⟨.func #[] #[121] false, .nilFunc, 1, 8, []⟩
theorem ti122_ok : Ti.of Tryz.prog 122 ti122 := ⟨by kernel_rfl, by kernel_rfl, by kernel_rfl⟩
def ti123 : Ti := ⟨.func #[65] #[4] false, .nilFunc, 1, 8, []⟩
theorem ti123_ok : Ti.of Tryz.prog 123 ti123 := ⟨by kernel_rfl, by kernel_rfl, by kernel_rfl⟩
def ti124 : Ti := ⟨.func #[36, 36] #[4] false, .nilFunc, 1, 8, []⟩
theorem ti124_ok : Ti.of Tryz.prog 124 ti124 := ⟨by kernel_rfl, by kernel_rfl, by kernel_rfl⟩
def ti125 : Ti := ⟨.func #[42, 65, 3, 34, 4, 34] #[28] false, .nilFunc, 1, 8, []⟩
theorem ti125_ok : Ti.of Tryz.prog 125 ti125 := ⟨by kernel_rfl, by kernel_rfl, by kernel_rfl⟩
def ti126 : Ti := ⟨.func #[31, 3] #[31] false, .nilFunc, 1, 8, []⟩
theorem ti126_ok : Ti.of Tryz.prog 126 ti126 := ⟨by kernel_rfl, by kernel_rfl, by kernel_rfl⟩
def ti127 : Ti := ⟨.func #[33, 31] #[4] false, .nilFunc, 1, 8, []⟩
theorem ti127_ok : Ti.of Tryz.prog 127 ti127 := ⟨by kernel_rfl, by kernel_rfl, by kernel_rfl⟩
def ti129 : Ti := ⟨.func #[42] #[42, 28] false, .nilFunc, 1, 8, []⟩
theorem ti129_ok : Ti.of Tryz.prog 129 ti129 := ⟨by kernel_rfl, by kernel_rfl, by kernel_rfl⟩
def ti130 : Ti := ⟨.func #[39, 36] #[4] false, .nilFunc, 1, 8, []⟩
theorem ti130_ok : Ti.of Tryz.prog 130 ti130 := ⟨by kernel_rfl, by kernel_rfl, by kernel_rfl⟩
def ti132 : Ti := ⟨.func #[39, 34] #[39, 4] false, .nilFunc, 1, 8, []⟩
theorem ti132_ok : Ti.of Tryz.prog 132 ti132 := ⟨by kernel_rfl, by kernel_rfl, by kernel_rfl⟩
def ti134 : Ti := ⟨.func #[39, 36, 37] #[39, 34, 43] false, .nilFunc, 1, 8, []⟩
theorem ti134_ok : Ti.of Tryz.prog 134 ti134 := ⟨by kernel_rfl, by kernel_rfl, by kernel_rfl⟩
def ti135 : Ti := ⟨.func #[39, 39, 34] #[4] false, .nilFunc, 1, 8, []⟩
theorem ti135_ok : Ti.of Tryz.prog 135 ti135 := ⟨by kernel_rfl, by kernel_rfl, by kernel_rfl⟩
def ti136 : Ti := ⟨.func #[65, 65] #[4] false, .nilFunc, 1, 8, []⟩
theorem ti136_ok : Ti.of Tryz.prog 136 ti136 := ⟨by kernel_rfl, by kernel_rfl, by kernel_rfl⟩
def ti137 : Ti := ⟨.struct #[⟨"me", 3, 0, false, "", "confluence/raft", 0⟩, ⟨"vote", 3, 1, false, "", "confluence/raft", 8⟩, ⟨"role", 3, 2, false, "", "confluence/raft", 16⟩, ⟨"leader", 3, 3, false, "", "confluence/raft", 24⟩, ⟨"clock", 3, 4, false, "", "confluence/raft", 32⟩, ⟨"limit", 3, 5, false, "", "confluence/raft", 40⟩, ⟨"term", 34, 6, false, "", "confluence/raft", 48⟩, ⟨"commit", 34, 7, false, "", "confluence/raft", 56⟩], .agg #[.int .i64 0, .int .i64 0, .int .i64 0, .int .i64 0, .int .i64 0, .int .i64 0, .int .u64 0, .int .u64 0], 8, 64, [(0, 3), (1, 3), (2, 3), (3, 3), (4, 3), (5, 3), (6, 34), (7, 34)]⟩
theorem ti137_ok : Ti.of Tryz.prog 137 ti137 := ⟨by kernel_rfl, by kernel_rfl, by kernel_rfl⟩
def ti138 : Ti := ⟨.struct #[⟨"me", 3, 0, false, "", "confluence/raft", 0⟩, ⟨"vote", 3, 1, false, "", "confluence/raft", 8⟩, ⟨"role", 3, 2, false, "", "confluence/raft", 16⟩, ⟨"leader", 3, 3, false, "", "confluence/raft", 24⟩, ⟨"clock", 3, 4, false, "", "confluence/raft", 32⟩, ⟨"limit", 3, 5, false, "", "confluence/raft", 40⟩, ⟨"term", 34, 6, false, "", "confluence/raft", 48⟩, ⟨"commit", 34, 7, false, "", "confluence/raft", 56⟩], .agg #[.int .i64 0, .int .i64 0, .int .i64 0, .int .i64 0, .int .i64 0, .int .i64 0, .int .u64 0, .int .u64 0], 8, 64, [(0, 3), (1, 3), (2, 3), (3, 3), (4, 3), (5, 3), (6, 34), (7, 34)]⟩
theorem ti138_ok : Ti.of Tryz.prog 138 ti138 := ⟨by kernel_rfl, by kernel_rfl, by kernel_rfl⟩
def ti139 : Ti := ⟨.func #[42] #[138] false, .nilFunc, 1, 8, []⟩
theorem ti139_ok : Ti.of Tryz.prog 139 ti139 := ⟨by kernel_rfl, by kernel_rfl, by kernel_rfl⟩
def ti140 : Ti := ⟨.func #[31, 31] #[4] false, .nilFunc, 1, 8, []⟩
theorem ti140_ok : Ti.of Tryz.prog 140 ti140 := ⟨by kernel_rfl, by kernel_rfl, by kernel_rfl⟩
def ti141 : Ti := ⟨.func #[40, 40] #[4] false, .nilFunc, 1, 8, []⟩
theorem ti141_ok : Ti.of Tryz.prog 141 ti141 := ⟨by kernel_rfl, by kernel_rfl, by kernel_rfl⟩
def ti142 : Ti := ⟨.func #[31] #[31] false, .nilFunc, 1, 8, []⟩
theorem ti142_ok : Ti.of Tryz.prog 142 ti142 := ⟨by kernel_rfl, by kernel_rfl, by kernel_rfl⟩
def ti143 : Ti := ⟨.func #[39, 34] #[43] false, .nilFunc, 1, 8, []⟩
theorem ti143_ok : Ti.of Tryz.prog 143 ti143 := ⟨by kernel_rfl, by kernel_rfl, by kernel_rfl⟩
def ti144 : Ti := ⟨.func #[33] #[43] false, .nilFunc, 1, 8, []⟩
theorem ti144_ok : Ti.of Tryz.prog 144 ti144 := ⟨by kernel_rfl, by kernel_rfl, by kernel_rfl⟩
def ti145 : Ti := ⟨.func #[42, 34] #[4] false, .nilFunc, 1, 8, []⟩
theorem ti145_ok : Ti.of Tryz.prog 145 ti145 := ⟨by kernel_rfl, by kernel_rfl, by kernel_rfl⟩
def ti146 : Ti := ⟨.func #[42] #[34] false, .nilFunc, 1, 8, []⟩
theorem ti146_ok : Ti.of Tryz.prog 146 ti146 := ⟨by kernel_rfl, by kernel_rfl, by kernel_rfl⟩
def ti148 : Ti := ⟨.func #[39, 34] #[39, 43] false, .nilFunc, 1, 8, []⟩
theorem ti148_ok : Ti.of Tryz.prog 148 ti148 := ⟨by kernel_rfl, by kernel_rfl, by kernel_rfl⟩
def ti149 : Ti := ⟨.func #[46] #[33, 43] false, .nilFunc, 1, 8, []⟩
theorem ti149_ok : Ti.of Tryz.prog 149 ti149 := ⟨by kernel_rfl, by kernel_rfl, by kernel_rfl⟩
def ti150 : Ti := ⟨.func #[33, 33] #[3] false, .nilFunc, 1, 8, []⟩
theorem ti150_ok : Ti.of Tryz.prog 150 ti150 := ⟨by kernel_rfl, by kernel_rfl, by kernel_rfl⟩
def ti151 : Ti := ⟨.func #[42, 4] #[28] false, .nilFunc, 1, 8, []⟩
theorem ti151_ok : Ti.of Tryz.prog 151 ti151 := ⟨by kernel_rfl, by kernel_rfl, by kernel_rfl⟩
def ti152 : Ti := ⟨.func #[40] #[40] false, .nilFunc, 1, 8, []⟩
theorem ti152_ok : Ti.of Tryz.prog 152 ti152 := ⟨by kernel_rfl, by kernel_rfl, by kernel_rfl⟩
def ti153 : Ti := ⟨.func #[33, 3] #[3, 4] false, .nilFunc, 1, 8, []⟩
theorem ti153_ok : Ti.of Tryz.prog 153 ti153 := ⟨by kernel_rfl, by kernel_rfl, by kernel_rfl⟩
def ti154 : Ti := ⟨.func #[28] #[] true, .nilFunc, 1, 8, []⟩
theorem ti154_ok : Ti.of Tryz.prog 154 ti154 := ⟨by kernel_rfl, by kernel_rfl, by kernel_rfl⟩
def ti155 : Ti := ⟨.int .i64, .int .i64 0, 1, 8, []⟩
theorem ti155_ok : Ti.of Tryz.prog 155 ti155 := ⟨by kernel_rfl, by kernel_rfl, by kernel_rfl⟩
def ti156 : Ti := ⟨.func #[3] #[155] false, .nilFunc, 1, 8, []⟩
theorem ti156_ok : Ti.of Tryz.prog 156 ti156 := ⟨by kernel_rfl, by kernel_rfl, by kernel_rfl⟩
def ti157 : Ti := ⟨.func #[65] #[155] false, .nilFunc, 1, 8, []⟩
theorem ti157_ok : Ti.of Tryz.prog 157 ti157 := ⟨by kernel_rfl, by kernel_rfl, by kernel_rfl⟩
def ti158 : Ti := ⟨.func #[31, 54] #[4] false, .nilFunc, 1, 8, []⟩
theorem ti158_ok : Ti.of Tryz.prog 158 ti158 := ⟨by kernel_rfl, by kernel_rfl, by kernel_rfl⟩
def ti159 : Ti := ⟨.func #[190] #[] false, .nilFunc, 1, 8, []⟩
theorem ti159_ok : Ti.of Tryz.prog 159 ti159 := ⟨by kernel_rfl, by kernel_rfl, by kernel_rfl⟩
def ti160 : Ti := ⟨.func #[190] #[] false, .nilFunc, 1, 8, []⟩
theorem ti160_ok : Ti.of Tryz.prog 160 ti160 := ⟨by kernel_rfl, by kernel_rfl, by kernel_rfl⟩
def ti161 : Ti := ⟨.func #[39] #[160] false, .nilFunc, 1, 8, []⟩
theorem ti161_ok : Ti.of Tryz.prog 161 ti161 := ⟨by kernel_rfl, by kernel_rfl, by kernel_rfl⟩
def ti163 : Ti := ⟨.func #[39, 34] #[3, 36] false, .nilFunc, 1, 8, []⟩
theorem ti163_ok : Ti.of Tryz.prog 163 ti163 := ⟨by kernel_rfl, by kernel_rfl, by kernel_rfl⟩
def ti164 : Ti := ⟨.func #[33] #[54] false, .nilFunc, 1, 8, []⟩
theorem ti164_ok : Ti.of Tryz.prog 164 ti164 := ⟨by kernel_rfl, by kernel_rfl, by kernel_rfl⟩
def ti165 : Ti := ⟨.func #[33, 54] #[3] false, .nilFunc, 1, 8, []⟩
theorem ti165_ok : Ti.of Tryz.prog 165 ti165 := ⟨by kernel_rfl, by kernel_rfl, by kernel_rfl⟩
def ti166 : Ti := ⟨.func #[59] #[4] false, .nilFunc, 1, 8, []⟩
theorem ti166_ok : Ti.of Tryz.prog 166 ti166 := ⟨by kernel_rfl, by kernel_rfl, by kernel_rfl⟩
def ti167 : Ti := ⟨.struct #[⟨"Member", 3, 0, false, "", "", 0⟩, ⟨"Index", 34, 1, false, "", "", 8⟩], .agg #[.int .i64 0, .int .u64 0], 2, 16, [(0, 3), (1, 34)]⟩
theorem ti167_ok : Ti.of Tryz.prog 167 ti167 := ⟨by kernel_rfl, by kernel_rfl, by kernel_rfl⟩
def ti168 : Ti := ⟨.struct #[⟨"Member", 3, 0, false, "", "", 0⟩, ⟨"Index", 34, 1, false, "", "", 8⟩], .agg #[.int .i64 0, .int .u64 0], 2, 16, [(0, 3), (1, 34)]⟩
theorem ti168_ok : Ti.of Tryz.prog 168 ti168 := ⟨by kernel_rfl, by kernel_rfl, by kernel_rfl⟩
def ti169 : Ti := ⟨.slice 168, .slice none 0 0, 1, 24, []⟩
theorem ti169_ok : Ti.of Tryz.prog 169 ti169 := ⟨by kernel_rfl, by kernel_rfl, by kernel_rfl⟩
def ti170 : Ti := ⟨.func #[33, 169] #[34] false, .nilFunc, 1, 8, []⟩
theorem ti170_ok : Ti.of Tryz.prog 170 ti170 := ⟨by kernel_rfl, by kernel_rfl, by kernel_rfl⟩
def ti171 : Ti := ⟨.func #[40, 172] #[3] false, .nilFunc, 1, 8, []⟩
theorem ti171_ok : Ti.of Tryz.prog 171 ti171 := ⟨by kernel_rfl, by kernel_rfl, by kernel_rfl⟩
def ti172 : Ti := ⟨.func #[112] #[4] false, .nilFunc, 1, 8, []⟩
theorem ti172_ok : Ti.of Tryz.prog 172 ti172 := ⟨by kernel_rfl, by kernel_rfl, by kernel_rfl⟩
def ti174 : Ti := ⟨.func #[39, 34, 3] #[36, 37, 43] false, .nilFunc, 1, 8, []⟩
theorem ti174_ok : Ti.of Tryz.prog 174 ti174 := ⟨by kernel_rfl, by kernel_rfl, by kernel_rfl⟩
def ti175 : Ti := ⟨.func #[46, 46] #[4] false, .nilFunc, 1, 8, []⟩
theorem ti175_ok : Ti.of Tryz.prog 175 ti175 := ⟨by kernel_rfl, by kernel_rfl, by kernel_rfl⟩
def ti176 : Ti := ⟨.func #[37, 37, 57] #[4] false, .nilFunc, 1, 8, []⟩
theorem ti176_ok : Ti.of Tryz.prog 176 ti176 := ⟨by kernel_rfl, by kernel_rfl, by kernel_rfl⟩
def ti177 : Ti := ⟨.func #[37, 34] #[4] false, .nilFunc, 1, 8, []⟩
theorem ti177_ok : Ti.of Tryz.prog 177 ti177 := ⟨by kernel_rfl, by kernel_rfl, by kernel_rfl⟩
def ti178 : Ti := ⟨.func #[39, 3] #[36] false, .nilFunc, 1, 8, []⟩
theorem ti178_ok : Ti.of Tryz.prog 178 ti178 := ⟨by kernel_rfl, by kernel_rfl, by kernel_rfl⟩
def ti179 : Ti := ⟨.func #[37, 37] #[4] false, .nilFunc, 1, 8, []⟩
theorem ti179_ok : Ti.of Tryz.prog 179 ti179 := ⟨by kernel_rfl, by kernel_rfl, by kernel_rfl⟩
def ti180 : Ti := ⟨.func #[42, 65] #[28] false, .nilFunc, 1, 8, []⟩
theorem ti180_ok : Ti.of Tryz.prog 180 ti180 := ⟨by kernel_rfl, by kernel_rfl, by kernel_rfl⟩
def ti181 : Ti := ⟨.func #[42, 3] #[3] false, .nilFunc, 1, 8, []⟩
theorem ti181_ok : Ti.of Tryz.prog 181 ti181 := ⟨by kernel_rfl, by kernel_rfl, by kernel_rfl⟩
def ti182 : Ti := ⟨.func #[42, 3] #[28] false, .nilFunc, 1, 8, []⟩
theorem ti182_ok : Ti.of Tryz.prog 182 ti182 := ⟨by kernel_rfl, by kernel_rfl, by kernel_rfl⟩
def ti183 : Ti := ⟨.func #[31] #[4] false, .nilFunc, 1, 8, []⟩
theorem ti183_ok : Ti.of Tryz.prog 183 ti183 := ⟨by kernel_rfl, by kernel_rfl, by kernel_rfl⟩
def ti184 : Ti := ⟨.func #[3] #[31] false, .nilFunc, 1, 8, []⟩
theorem ti184_ok : Ti.of Tryz.prog 184 ti184 := ⟨by kernel_rfl, by kernel_rfl, by kernel_rfl⟩
def ti185 : Ti := ⟨.func #[28, 28] #[28] false, .nilFunc, 1, 8, []⟩
theorem ti185_ok : Ti.of Tryz.prog 185 ti185 := ⟨by kernel_rfl, by kernel_rfl, by kernel_rfl⟩
def ti186 : Ti := ⟨.func #[31, 3] #[3, 4] false, .nilFunc, 1, 8, []⟩
theorem ti186_ok : Ti.of Tryz.prog 186 ti186 := ⟨by kernel_rfl, by kernel_rfl, by kernel_rfl⟩
def ti187 : Ti := ⟨.struct #[⟨"is", 4, 0, false, "", "confluence/frame", 0⟩, ⟨"f", 155, 1, false, "", "confluence/frame", 8⟩], .agg #[.bool false, .int .i64 0], 2, 16, [(0, 4), (1, 155)]⟩
theorem ti187_ok : Ti.of Tryz.prog 187 ti187 := ⟨by kernel_rfl, by kernel_rfl, by kernel_rfl⟩
def ti188 : Ti := ⟨.array 7 187, .agg #[.bool false, .int .i64 0, .bool false, .int .i64 0, .bool false, .int .i64 0, .bool false, .int .i64 0, .bool false, .int .i64 0, .bool false, .int .i64 0, .bool false, .int .i64 0], 14, 112, []⟩
theorem ti188_ok : Ti.of Tryz.prog 188 ti188 := ⟨by kernel_rfl, by kernel_rfl, by kernel_rfl⟩
def ti189 : Ti := ⟨.func #[31, 54] #[3] false, .nilFunc, 1, 8, []⟩
theorem ti189_ok : Ti.of Tryz.prog 189 ti189 := ⟨by kernel_rfl, by kernel_rfl, by kernel_rfl⟩
def ti190 : Ti := ⟨.func #[3, 36] #[4] false, .nilFunc, 1, 8, []⟩
theorem ti190_ok : Ti.of Tryz.prog 190 ti190 := ⟨by kernel_rfl, by kernel_rfl, by kernel_rfl⟩
def ti191 : Ti := ⟨.slice 34, .slice none 0 0, 1, 24, []⟩
theorem ti191_ok : Ti.of Tryz.prog 191 ti191 := ⟨by kernel_rfl, by kernel_rfl, by kernel_rfl⟩
def ti192 : Ti := ⟨.func #[191] #[] false, .nilFunc, 1, 8, []⟩
theorem ti192_ok : Ti.of Tryz.prog 192 ti192 := ⟨by kernel_rfl, by kernel_rfl, by kernel_rfl⟩
def ti193 : Ti := ⟨.func #[36] #[4] false, .nilFunc, 1, 8, []⟩
theorem ti193_ok : Ti.of Tryz.prog 193 ti193 := ⟨by kernel_rfl, by kernel_rfl, by kernel_rfl⟩
def ti194 : Ti := ⟨.func #[31, 3] #[3] false, .nilFunc, 1, 8, []⟩
theorem ti194_ok : Ti.of Tryz.prog 194 ti194 := ⟨by kernel_rfl, by kernel_rfl, by kernel_rfl⟩
def ti195 : Ti := ⟨.func #[169, 3] #[34] false, .nilFunc, 1, 8, []⟩
theorem ti195_ok : Ti.of Tryz.prog 195 ti195 := ⟨by kernel_rfl, by kernel_rfl, by kernel_rfl⟩
def ti196 : Ti := ⟨.int .u64, .int .u64 0, 1, 8, []⟩
theorem ti196_ok : Ti.of Tryz.prog 196 ti196 := ⟨by kernel_rfl, by kernel_rfl, by kernel_rfl⟩
def ti197 : Ti := ⟨.func #[3, 3] #[4] false, .nilFunc, 1, 8, []⟩
theorem ti197_ok : Ti.of Tryz.prog 197 ti197 := ⟨by kernel_rfl, by kernel_rfl, by kernel_rfl⟩
def ti198 : Ti := ⟨.func #[191, 3, 3, 3] #[] false, .nilFunc, 1, 8, []⟩
theorem ti198_ok : Ti.of Tryz.prog 198 ti198 := ⟨by kernel_rfl, by kernel_rfl, by kernel_rfl⟩
def ti199 : Ti := ⟨.func #[196] #[3] false, .nilFunc, 1, 8, []⟩
theorem ti199_ok : Ti.of Tryz.prog 199 ti199 := ⟨by kernel_rfl, by kernel_rfl, by kernel_rfl⟩
def ti200 : Ti := ⟨.func #[31, 3, 31] #[31] true, .nilFunc, 1, 8, []⟩
theorem ti200_ok : Ti.of Tryz.prog 200 ti200 := ⟨by kernel_rfl, by kernel_rfl, by kernel_rfl⟩
def ti201 : Ti := ⟨.func #[43] #[39, 34, 43] false, .nilFunc, 1, 8, []⟩
theorem ti201_ok : Ti.of Tryz.prog 201 ti201 := ⟨by kernel_rfl, by kernel_rfl, by kernel_rfl⟩
def ti202 : Ti := ⟨.func #[191, 3, 3] #[] false, .nilFunc, 1, 8, []⟩
theorem ti202_ok : Ti.of Tryz.prog 202 ti202 := ⟨by kernel_rfl, by kernel_rfl, by kernel_rfl⟩
def ti203 : Ti := ⟨.int .i64, .int .i64 0, 1, 8, []⟩
theorem ti203_ok : Ti.of Tryz.prog 203 ti203 := ⟨by kernel_rfl, by kernel_rfl, by kernel_rfl⟩
def ti205 : Ti := ⟨.func #[191, 3, 3] #[3, 203] false, .nilFunc, 1, 8, []⟩
theorem ti205_ok : Ti.of Tryz.prog 205 ti205 := ⟨by kernel_rfl, by kernel_rfl, by kernel_rfl⟩
def ti206 : Ti := ⟨.func #[191, 3, 3] #[4] false, .nilFunc, 1, 8, []⟩
theorem ti206_ok : Ti.of Tryz.prog 206 ti206 := ⟨by kernel_rfl, by kernel_rfl, by kernel_rfl⟩
def ti207 : Ti := ⟨.func #[34, 34] #[4] false, .nilFunc, 1, 8, []⟩
theorem ti207_ok : Ti.of Tryz.prog 207 ti207 := ⟨by kernel_rfl, by kernel_rfl, by kernel_rfl⟩
def ti208 : Ti := ⟨.func #[191, 3, 3, 3] #[3] false, .nilFunc, 1, 8, []⟩
theorem ti208_ok : Ti.of Tryz.prog 208 ti208 := ⟨by kernel_rfl, by kernel_rfl, by kernel_rfl⟩
def ti209 : Ti := ⟨.func #[191, 3, 3, 3] #[3, 4] false, .nilFunc, 1, 8, []⟩
theorem ti209_ok : Ti.of Tryz.prog 209 ti209 := ⟨by kernel_rfl, by kernel_rfl, by kernel_rfl⟩
def ti210 : Ti := ⟨.func #[211] #[3] false, .nilFunc, 1, 8, []⟩
theorem ti210_ok : Ti.of Tryz.prog 210 ti210 := ⟨by kernel_rfl, by kernel_rfl, by kernel_rfl⟩
def ti211 : Ti := ⟨.int .u32, .int .u32 0, 1, 4, []⟩
theorem ti211_ok : Ti.of Tryz.prog 211 ti211 := ⟨by kernel_rfl, by kernel_rfl, by kernel_rfl⟩
def ti212 : Ti := ⟨.func #[34] #[3] false, .nilFunc, 1, 8, []⟩
theorem ti212_ok : Ti.of Tryz.prog 212 ti212 := ⟨by kernel_rfl, by kernel_rfl, by kernel_rfl⟩
def ti213 : Ti := ⟨.func #[31, 3] #[] false, .nilFunc, 1, 8, []⟩
theorem ti213_ok : Ti.of Tryz.prog 213 ti213 := ⟨by kernel_rfl, by kernel_rfl, by kernel_rfl⟩
def ti214 : Ti := ⟨.int .u64, .int .u64 0, 1, 8, []⟩
theorem ti214_ok : Ti.of Tryz.prog 214 ti214 := ⟨by kernel_rfl, by kernel_rfl, by kernel_rfl⟩
def ti215 : Ti := ⟨.func #[3] #[196] false, .nilFunc, 1, 8, []⟩
theorem ti215_ok : Ti.of Tryz.prog 215 ti215 := ⟨by kernel_rfl, by kernel_rfl, by kernel_rfl⟩
def ti216 : Ti := ⟨.func #[] #[34] false, .nilFunc, 1, 8, []⟩
theorem ti216_ok : Ti.of Tryz.prog 216 ti216 := ⟨by kernel_rfl, by kernel_rfl, by kernel_rfl⟩
def ti217 : Ti := ⟨.func #[191, 3, 218] #[3] false, .nilFunc, 1, 8, []⟩
theorem ti217_ok : Ti.of Tryz.prog 217 ti217 := ⟨by kernel_rfl, by kernel_rfl, by kernel_rfl⟩
def ti218 : Ti := ⟨.pointer 3, .pointer none, 1, 8, []⟩
theorem ti218_ok : Ti.of Tryz.prog 218 ti218 := ⟨by kernel_rfl, by kernel_rfl, by kernel_rfl⟩
def ti219 : Ti := ⟨.func #[191, 3, 3, 3, 218] #[3] false, .nilFunc, 1, 8, []⟩
theorem ti219_ok : Ti.of Tryz.prog 219 ti219 := ⟨by kernel_rfl, by kernel_rfl, by kernel_rfl⟩
def ti220 : Ti := ⟨.func #[34] #[4] false, .nilFunc, 1, 8, []⟩
theorem ti220_ok : Ti.of Tryz.prog 220 ti220 := ⟨by kernel_rfl, by kernel_rfl, by kernel_rfl⟩
def ti221 : Ti := ⟨.pointer 214, .pointer none, 1, 8, []⟩
theorem ti221_ok : Ti.of Tryz.prog 221 ti221 := ⟨by kernel_rfl, by kernel_rfl, by kernel_rfl⟩
def ti223 : Ti := ⟨.func #[191, 3, 3, 218] #[3, 3] false, .nilFunc, 1, 8, []⟩
theorem ti223_ok : Ti.of Tryz.prog 223 ti223 := ⟨by kernel_rfl, by kernel_rfl, by kernel_rfl⟩
def ti224 : Ti := ⟨.func #[31] #[] false, .nilFunc, 1, 8, []⟩
theorem ti224_ok : Ti.of Tryz.prog 224 ti224 := ⟨by kernel_rfl, by kernel_rfl, by kernel_rfl⟩
def ti225 : Ti := ⟨.func #[] #[9] false, .nilFunc, 1, 8, []⟩
theorem ti225_ok : Ti.of Tryz.prog 225 ti225 := ⟨by kernel_rfl, by kernel_rfl, by kernel_rfl⟩
def ti226 : Ti := ⟨.struct #[⟨"_interface", 17, 0, false, "", "runtime", 0⟩, ⟨"concrete", 17, 1, false, "", "runtime", 8⟩, ⟨"asserted", 17, 2, false, "", "runtime", 16⟩, ⟨"missingMethod", 9, 3, false, "", "runtime", 24⟩], .agg #[.pointer none, .pointer none, .pointer none, .string ByteArray.empty], 4, 40, [(0, 17), (1, 17), (2, 17), (3, 9)]⟩
theorem ti226_ok : Ti.of Tryz.prog 226 ti226 := ⟨by kernel_rfl, by kernel_rfl, by kernel_rfl⟩
def ti228 : Ti := ⟨.array 0 16, .agg #[], 0, 0, []⟩
theorem ti228_ok : Ti.of Tryz.prog 228 ti228 := ⟨by kernel_rfl, by kernel_rfl, by kernel_rfl⟩
def ti229 : Ti := ⟨.struct #[⟨"_", 228, 0, false, "", "runtime", 0⟩], .agg #[], 0, 0, [(0, 228)]⟩
theorem ti229_ok : Ti.of Tryz.prog 229 ti229 := ⟨by kernel_rfl, by kernel_rfl, by kernel_rfl⟩
def ti231 : Ti := ⟨.func #[] #[3] false, .nilFunc, 1, 8, []⟩
theorem ti231_ok : Ti.of Tryz.prog 231 ti231 := ⟨by kernel_rfl, by kernel_rfl, by kernel_rfl⟩
def ti234 : Ti := ⟨.func #[241, 241] #[4] false, .nilFunc, 1, 8, []⟩
theorem ti234_ok : Ti.of Tryz.prog 234 ti234 := ⟨by kernel_rfl, by kernel_rfl, by kernel_rfl⟩
def ti235 : Ti := ⟨.pointer 5, .pointer none, 1, 8, []⟩
theorem ti235_ok : Ti.of Tryz.prog 235 ti235 := ⟨by kernel_rfl, by kernel_rfl, by kernel_rfl⟩
def ti238 : Ti := ⟨.struct #[⟨"Size_", 12, 0, false, "", "", 0⟩, ⟨"PtrBytes", 12, 1, false, "", "", 8⟩, ⟨"Hash", 211, 2, false, "", "", 16⟩, ⟨"TFlag", 232, 3, false, "", "", 20⟩, ⟨"Align_", 5, 4, false, "", "", 21⟩, ⟨"FieldAlign_", 5, 5, false, "", "", 22⟩, ⟨"Kind_", 233, 6, false, "", "", 23⟩, ⟨"Equal", 234, 7, false, "", "", 24⟩, ⟨"GCData", 235, 8, false, "", "", 32⟩, ⟨"Str", 236, 9, false, "", "", 40⟩, ⟨"PtrToThis", 237, 10, false, "", "", 44⟩], .agg #[.int .u64 0, .int .u64 0, .int .u32 0, .int .u8 0, .int .u8 0, .int .u8 0, .int .u8 0, .nilFunc, .pointer none, .int .i32 0, .int .i32 0], 11, 48, [(0, 12), (1, 12), (2, 211), (3, 232), (4, 5), (5, 5), (6, 233), (7, 234), (8, 235), (9, 236), (10, 237)]⟩
theorem ti238_ok : Ti.of Tryz.prog 238 ti238 := ⟨by kernel_rfl, by kernel_rfl, by kernel_rfl⟩
def ti240 : Ti := ⟨.func #[155] #[4] false, .nilFunc, 1, 8, []⟩
theorem ti240_ok : Ti.of Tryz.prog 240 ti240 := ⟨by kernel_rfl, by kernel_rfl, by kernel_rfl⟩
def tabs : List (Nat × Ti) := [(1, ti1), (2, ti2), (3, ti3), (4, ti4), (5, ti5), (7, ti7), (9, ti9), (12, ti12), (13, ti13), (21, ti21), (22, ti22), (23, ti23), (24, ti24), (25, ti25), (26, ti26), (27, ti27), (28, ti28), (29, ti29), (30, ti30), (31, ti31), (32, ti32), (33, ti33), (34, ti34), (35, ti35), (36, ti36), (37, ti37), (38, ti38), (39, ti39), (40, ti40), (41, ti41), (42, ti42), (43, ti43), (45, ti45), (46, ti46), (47, ti47), (48, ti48), (49, ti49), (50, ti50), (52, ti52), (53, ti53), (54, ti54), (56, ti56), (57, ti57), (58, ti58), (59, ti59), (60, ti60), (61, ti61), (62, ti62), (63, ti63), (64, ti64), (65, ti65), (66, ti66), (68, ti68), (69, ti69), (71, ti71), (72, ti72), (74, ti74), (75, ti75), (76, ti76), (77, ti77), (78, ti78), (80, ti80), (81, ti81), (82, ti82), (85, ti85), (86, ti86), (87, ti87), (88, ti88), (89, ti89), (90, ti90), (91, ti91), (92, ti92), (93, ti93), (94, ti94), (96, ti96), (98, ti98), (99, ti99), (101, ti101), (102, ti102), (103, ti103), (105, ti105), (106, ti106), (107, ti107), (108, ti108), (109, ti109), (110, ti110), (111, ti111), (112, ti112), (113, ti113), (114, ti114), (115, ti115), (116, ti116), (117, ti117), (118, ti118), (119, ti119), (120, ti120), (121, ti121), (122, ti122), (123, ti123), (124, ti124), (125, ti125), (126, ti126), (127, ti127), (129, ti129), (130, ti130), (132, ti132), (134, ti134), (135, ti135), (136, ti136), (137, ti137), (138, ti138), (139, ti139), (140, ti140), (141, ti141), (142, ti142), (143, ti143), (144, ti144), (145, ti145), (146, ti146), (148, ti148), (149, ti149), (150, ti150), (151, ti151), (152, ti152), (153, ti153), (154, ti154), (155, ti155), (156, ti156), (157, ti157), (158, ti158), (159, ti159), (160, ti160), (161, ti161), (163, ti163), (164, ti164), (165, ti165), (166, ti166), (167, ti167), (168, ti168), (169, ti169), (170, ti170), (171, ti171), (172, ti172), (174, ti174), (175, ti175), (176, ti176), (177, ti177), (178, ti178), (179, ti179), (180, ti180), (181, ti181), (182, ti182), (183, ti183), (184, ti184), (185, ti185), (186, ti186), (187, ti187), (188, ti188), (189, ti189), (190, ti190), (191, ti191), (192, ti192), (193, ti193), (194, ti194), (195, ti195), (196, ti196), (197, ti197), (198, ti198), (199, ti199), (200, ti200), (201, ti201), (202, ti202), (203, ti203), (205, ti205), (206, ti206), (207, ti207), (208, ti208), (209, ti209), (210, ti210), (211, ti211), (212, ti212), (213, ti213), (214, ti214), (215, ti215), (216, ti216), (217, ti217), (218, ti218), (219, ti219), (220, ti220), (221, ti221), (223, ti223), (224, ti224), (225, ti225), (226, ti226), (228, ti228), (229, ti229), (231, ti231), (234, ti234), (235, ti235), (238, ti238), (240, ti240)]
instance : HasTab Tryz.prog := ⟨tabs, ⟨ti1_ok, ⟨ti2_ok, ⟨ti3_ok, ⟨ti4_ok, ⟨ti5_ok, ⟨ti7_ok, ⟨ti9_ok, ⟨ti12_ok, ⟨ti13_ok, ⟨ti21_ok, ⟨ti22_ok, ⟨ti23_ok, ⟨ti24_ok, ⟨ti25_ok, ⟨ti26_ok, ⟨ti27_ok, ⟨ti28_ok, ⟨ti29_ok, ⟨ti30_ok, ⟨ti31_ok, ⟨ti32_ok, ⟨ti33_ok, ⟨ti34_ok, ⟨ti35_ok, ⟨ti36_ok, ⟨ti37_ok, ⟨ti38_ok, ⟨ti39_ok, ⟨ti40_ok, ⟨ti41_ok, ⟨ti42_ok, ⟨ti43_ok, ⟨ti45_ok, ⟨ti46_ok, ⟨ti47_ok, ⟨ti48_ok, ⟨ti49_ok, ⟨ti50_ok, ⟨ti52_ok, ⟨ti53_ok, ⟨ti54_ok, ⟨ti56_ok, ⟨ti57_ok, ⟨ti58_ok, ⟨ti59_ok, ⟨ti60_ok, ⟨ti61_ok, ⟨ti62_ok, ⟨ti63_ok, ⟨ti64_ok, ⟨ti65_ok, ⟨ti66_ok, ⟨ti68_ok, ⟨ti69_ok, ⟨ti71_ok, ⟨ti72_ok, ⟨ti74_ok, ⟨ti75_ok, ⟨ti76_ok, ⟨ti77_ok, ⟨ti78_ok, ⟨ti80_ok, ⟨ti81_ok, ⟨ti82_ok, ⟨ti85_ok, ⟨ti86_ok, ⟨ti87_ok, ⟨ti88_ok, ⟨ti89_ok, ⟨ti90_ok, ⟨ti91_ok, ⟨ti92_ok, ⟨ti93_ok, ⟨ti94_ok, ⟨ti96_ok, ⟨ti98_ok, ⟨ti99_ok, ⟨ti101_ok, ⟨ti102_ok, ⟨ti103_ok, ⟨ti105_ok, ⟨ti106_ok, ⟨ti107_ok, ⟨ti108_ok, ⟨ti109_ok, ⟨ti110_ok, ⟨ti111_ok, ⟨ti112_ok, ⟨ti113_ok, ⟨ti114_ok, ⟨ti115_ok, ⟨ti116_ok, ⟨ti117_ok, ⟨ti118_ok, ⟨ti119_ok, ⟨ti120_ok, ⟨ti121_ok, ⟨ti122_ok, ⟨ti123_ok, ⟨ti124_ok, ⟨ti125_ok, ⟨ti126_ok, ⟨ti127_ok, ⟨ti129_ok, ⟨ti130_ok, ⟨ti132_ok, ⟨ti134_ok, ⟨ti135_ok, ⟨ti136_ok, ⟨ti137_ok, ⟨ti138_ok, ⟨ti139_ok, ⟨ti140_ok, ⟨ti141_ok, ⟨ti142_ok, ⟨ti143_ok, ⟨ti144_ok, ⟨ti145_ok, ⟨ti146_ok, ⟨ti148_ok, ⟨ti149_ok, ⟨ti150_ok, ⟨ti151_ok, ⟨ti152_ok, ⟨ti153_ok, ⟨ti154_ok, ⟨ti155_ok, ⟨ti156_ok, ⟨ti157_ok, ⟨ti158_ok, ⟨ti159_ok, ⟨ti160_ok, ⟨ti161_ok, ⟨ti163_ok, ⟨ti164_ok, ⟨ti165_ok, ⟨ti166_ok, ⟨ti167_ok, ⟨ti168_ok, ⟨ti169_ok, ⟨ti170_ok, ⟨ti171_ok, ⟨ti172_ok, ⟨ti174_ok, ⟨ti175_ok, ⟨ti176_ok, ⟨ti177_ok, ⟨ti178_ok, ⟨ti179_ok, ⟨ti180_ok, ⟨ti181_ok, ⟨ti182_ok, ⟨ti183_ok, ⟨ti184_ok, ⟨ti185_ok, ⟨ti186_ok, ⟨ti187_ok, ⟨ti188_ok, ⟨ti189_ok, ⟨ti190_ok, ⟨ti191_ok, ⟨ti192_ok, ⟨ti193_ok, ⟨ti194_ok, ⟨ti195_ok, ⟨ti196_ok, ⟨ti197_ok, ⟨ti198_ok, ⟨ti199_ok, ⟨ti200_ok, ⟨ti201_ok, ⟨ti202_ok, ⟨ti203_ok, ⟨ti205_ok, ⟨ti206_ok, ⟨ti207_ok, ⟨ti208_ok, ⟨ti209_ok, ⟨ti210_ok, ⟨ti211_ok, ⟨ti212_ok, ⟨ti213_ok, ⟨ti214_ok, ⟨ti215_ok, ⟨ti216_ok, ⟨ti217_ok, ⟨ti218_ok, ⟨ti219_ok, ⟨ti220_ok, ⟨ti221_ok, ⟨ti223_ok, ⟨ti224_ok, ⟨ti225_ok, ⟨ti226_ok, ⟨ti228_ok, ⟨ti229_ok, ⟨ti231_ok, ⟨ti234_ok, ⟨ti235_ok, ⟨ti238_ok, ⟨ti240_ok, trivial⟩⟩⟩⟩⟩⟩⟩⟩⟩⟩⟩⟩⟩⟩⟩⟩⟩⟩⟩⟩⟩⟩⟩⟩⟩⟩⟩⟩⟩⟩⟩⟩⟩⟩⟩⟩⟩⟩⟩⟩⟩⟩⟩⟩⟩⟩⟩⟩⟩⟩⟩⟩⟩⟩⟩⟩⟩⟩⟩⟩⟩⟩⟩⟩⟩⟩⟩⟩⟩⟩⟩⟩⟩⟩⟩⟩⟩⟩⟩⟩⟩⟩⟩⟩⟩⟩⟩⟩⟩⟩⟩⟩⟩⟩⟩⟩⟩⟩⟩⟩⟩⟩⟩⟩⟩⟩⟩⟩⟩⟩⟩⟩⟩⟩⟩⟩⟩⟩⟩⟩⟩⟩⟩⟩⟩⟩⟩⟩⟩⟩⟩⟩⟩⟩⟩⟩⟩⟩⟩⟩⟩⟩⟩⟩⟩⟩⟩⟩⟩⟩⟩⟩⟩⟩⟩⟩⟩⟩⟩⟩⟩⟩⟩⟩⟩⟩⟩⟩⟩⟩⟩⟩⟩⟩⟩⟩⟩⟩⟩⟩⟩⟩⟩⟩⟩⟩⟩⟩⟩⟩⟩⟩⟩⟩⟩⟩⟩⟩⟩⟩⟩⟩
end Go.Proofs.YtdeffdldifepkaaGreat
namespace Go.Proofs.YtdeffdldifepkaaGreat

end Go.Proofs.YtdeffdldifepkaaGreat
namespace Go.Proofs.YtdeffdldifepkaaGreat
open Go.RowKit

/-- a slice of bytes that is owned: its block is nobody else's -/
def Ob (w : World) (base : Nat) (A : Option Addr) (n c : Nat) (l : List UInt8) : Prop := w.ownsRow base 5 1 (.slice A n c) n (l.map bv)
/-- block g holds just these bytes -/
def Bb (w : World) (g : Nat) (l : List UInt8) : Prop := Blk w g 5 (l.map bv).toArray

theorem Bb.own {w : World} {g base n : Nat} {l : List UInt8} (h : Bb w g l) (hb : base ≤ g) (hn : l.length = n) (hm : n ≤ maxLen) : Ob w base (some ⟨g, 0, none⟩) n n l :=
  Blk.own h hb (Nat.le_refl _) hm (by simp [hn]) (by rw [← hn]; simp [List.take_of_length_le])
theorem Ob.bs {w : World} {base n c : Nat} {A : Option Addr} {l : List UInt8} (h : Ob w base A n c l) : Bs w (fun k => base ≤ k) A n c l := Bs.of_own h
theorem Ob.nil (w : World) (base : Nat) : Ob w base none 0 0 [] := World.ownsRow_nil w base _ 1
theorem Bb.bs {w : World} {g n : Nat} {l : List UInt8} (h : Bb w g l) (hn : l.length = n) (hm : n ≤ maxLen) : Bs w (fun k => k = g) (some ⟨g, 0, none⟩) n n l := by
  refine ⟨hn.symm, Nat.le_refl _, hm, by simp [hn], fun _ => ⟨_, rfl, rfl, fun j u hu => ?_⟩⟩
  have : (⟨g, 0, none⟩ : Addr).add j = ⟨g, j, none⟩ := by unfold Addr.add; split <;> simp_all
  rw [this, Blk.cell h]
  simpa using hu
theorem Bb.kp {w w' : World} {g : Nat} {l : List UInt8} {F : Nat → Prop} (h : Bb w g l) (hk : Kp F w w') (hF : F g) : Bb w' g l := Blk.kp h hk hF

section
variable (w : World) {ops : Array Oper} {rest : List Oper} {o : Oper} {a : Act} {Q : Exit → Act → World → Prop}
end

theorem Ob.kp {w w' : World} {base n c : Nat} {A : Option Addr} {l : List UInt8} {F : Nat → Prop} (h : Ob w base A n c l) (hk : Kp F w w') (hF : ∀ g, (Value.slice A n c).ownBlock = some g → F g) : Ob w' base A n c l := own_kp h hk hF
theorem Ob.all {w w' : World} {base n c : Nat} {A : Option Addr} {l : List UInt8} (h : Ob w base A n c l) (hk : Kp All w w') : Ob w' base A n c l := own_kp h hk fun _ _ => trivial
theorem Ob.base {w : World} {base base' n c : Nat} {A : Option Addr} {l : List UInt8} (h : Ob w base A n c l) (hb : base' ≤ base) : Ob w base' A n c l := own_base h hb
theorem Ob.lt {w : World} {base n c : Nat} {A : Option Addr} {l : List UInt8} (h : Ob w base A n c l) : ∀ k, (Value.slice A n c).ownBlock = some k → base ≤ k ∧ k < w.heap.size := World.ownsRow.lt h
/-- what is kept while an owned slice is written -/
theorem Ob.old {w w1 w2 : World} {base n c : Nat} {A : Option Addr} {l : List UInt8} (h : Ob w1 base A n c l) (hb : w.heap.size ≤ base) (h1 : Kp All w w1) (h2 : Kp (fun k => some k ≠ (Value.slice A n c).ownBlock) w1 w2) : Kp All w w2 :=
  h1.since h2 fun i hi e => by have := h.lt i e.symm; omega
/-- a literal of bytes -/
theorem Bs.lit (w : World) (g : Nat) (l : List UInt8) (n : Nat) (cs : Array Value) (hg : g = w.heap.size) (hc : cs = (l.map bv).toArray) (hn : n = l.length) (hm : n ≤ maxLen) : Bs (w.alloc (.cells cs 5)) (fun k => k = w.heap.size) (some ⟨g, 0, none⟩) n n l := by
  subst hc hg
  exact Bb.bs (Blk.new w _ _) hn.symm hm
section
variable (w : World) {ops : Array Oper} {rest : List Oper} {o : Oper} {a : Act} {Q : Exit → Act → World → Prop}
end

theorem Ob.addr {w : World} {base n c : Nat} {A : Option Addr} {l : List UInt8} (h : Ob w base A n c l) (hn : 0 < n) : ∃ g, A = some ⟨g, 0, none⟩ ∧ base ≤ g ∧ g < w.heap.size ∧ (Value.slice A n c).ownBlock = some g := by
  obtain ⟨g, cs, rfl, hb, hh, _, _⟩ := own_blk h hn
  exact ⟨g, rfl, hb, hh.lt, rfl⟩
end Go.Proofs.YtdeffdldifepkaaGreat
namespace Go.Proofs.YtdeffdldifepkaaGreat
open Go.RowKit Go.ChangeShapes Go.WideShapes Go.ChangeAt
open Go.ChangeMaps (open_string shut_string)

theorem laid_out : laidOutB Tryz.prog = true := by kernel_rfl
theorem own_knob : ownKnob Tryz.prog.godebug = none := by kernel_rfl

theorem wf_u8 {n : Int} (h : (Lit.int .u8 n).wf = true) : 0 ≤ n ∧ n < 256 := by
  have := bounds_u8 h
  omega

section
variable {H : Type} {enc : TypeId × Value → H} {W : World} {r : Reach} {base : Nat} {v : Value} {d : DataW H} {p : List MemPlace}
end
end Go.Proofs.YtdeffdldifepkaaGreat
namespace Go.Proofs.YtdeffdldifepkaaGreat
open Go.RowKit Go.ChangeShapes Go.WideShapes Go.ChangeAt
set_option linter.unusedVariables false
set_option linter.unusedSimpArgs false
/-- the cells cs may stand where a value of type t came in -/
def Op_ {H : Type} (enc : TypeId × Value → H) (P : Program) (W : World) (t : TypeId) (cs : List Value) : Prop := ∃ m x, DataW.trod enc P W 0 (fun _ => true) true m t cs = some x
section
variable {H : Type} {enc : TypeId × Value → H} {P : Program} {W : World} {r : Reach} {base : Nat} {v : Value} {d : DataW H} {p : List MemPlace} {t e : TypeId} {cs : List Value} {size : Nat}
theorem Op_.of_trod (h : DataW.Trod enc P W 0 (fun _ => true) true t v d p) : Op_ enc P W t v.cells.toList := by
  obtain ⟨fuel, hf⟩ := h
  exact ⟨fuel, _, hf⟩
theorem Op_.int {k : IntKind} (ht : P.underlying t = some (.int k)) (h : Op_ enc P W t cs) : ∃ n, cs = [.int k n] ∧ (Lit.int k n).wf = true := by
  obtain ⟨m, x, h⟩ := h
  obtain ⟨n, h1, _, h2⟩ := DataW.trod_int ht h
  exact ⟨n, h1, h2⟩
theorem Op_.struct {fs : Array Field} (ht : P.underlying t = some (.struct fs)) (h : Op_ enc P W t cs) : cs.length = P.cellsOf t ∧ ∀ (i : Nat) (f : Field), fs[i]? = some f → Op_ enc P W f.type ((cs.drop f.offset).take (P.cellsOf f.type)) := by
  obtain ⟨m, x, h⟩ := h
  obtain ⟨xs, n, _, _, hl, hx, hf⟩ := DataW.trod_struct ht h
  refine ⟨hl, fun i f hi => ?_⟩
  have h1 := hf i f hi
  have hlt : i < xs.length := by rw [hx]; exact (Array.getElem?_eq_some_iff.1 hi).1
  rw [List.getElem?_eq_getElem hlt] at h1
  exact ⟨n, _, h1⟩
theorem Op_.array {m : Nat} (ht : P.underlying t = some (.array m e)) (h : Op_ enc P W t cs) : cs.length = P.cellsOf t ∧ ∀ i, i < m → Op_ enc P W e ((cs.drop (i * P.cellsOf e)).take (P.cellsOf e)) := by
  obtain ⟨f, x, h⟩ := h
  obtain ⟨xs, n, _, _, hl, hx, hf⟩ := DataW.trod_array ht h
  refine ⟨hl, fun i hi => ?_⟩
  have h1 := hf i (by omega)
  rw [List.getElem?_eq_getElem (by omega)] at h1
  exact ⟨n, _, h1⟩
theorem Op_.slice (ht : P.underlying t = some (.slice e)) (hz : P.cellsOf e = size) (h : Op_ enc P W t cs) :
    ∃ A n c xs, cs = [.slice A n c] ∧ n ≤ c ∧ c ≤ maxLen ∧ Rd W All size A n xs ∧ ∀ i, i < n → Op_ enc P W e ((xs.drop (i * size)).take size) := by
  subst hz
  obtain ⟨m, x, h⟩ := h
  rcases DataW.trod_slice ht h with ⟨rfl, _⟩ | ⟨a, len, cap, elems, rest, n, _, rfl, _, _, hlc, hcm, hel, hlen, _⟩
  · exact ⟨none, 0, 0, [], rfl, Nat.le_refl _, by unfold maxLen; omega, Rd.none_, fun i hi => absurd hi (by omega)⟩
  · have key : ∀ i, i < len → ∃ ci : List Value, ci.length = P.cellsOf e ∧ (∀ j, j < P.cellsOf e → W.cell? (a.add (i * P.cellsOf e + j)) = ci[j]?) ∧ Op_ enc P W e ci := fun i hi => by
      have h1 := hlen i hi
      rw [List.getElem?_eq_getElem (by omega)] at h1
      obtain ⟨ci, h2, h3⟩ := Option.bind_eq_some_iff.1 h1
      obtain ⟨_, h4, h5⟩ := World.cells?_some h2
      exact ⟨ci, h4, fun j hj => by rw [← add_of_add]; exact h5 j hj, n, _, h3⟩
    have hcell : ∀ k, k < len * P.cellsOf e → W.cell? (a.add k) ≠ none := fun k hk => by
      have hpos : 0 < P.cellsOf e := by
        rcases Nat.eq_zero_or_pos (P.cellsOf e) with h0 | h0
        · rw [h0, Nat.mul_zero] at hk; omega
        · exact h0
      obtain ⟨ci, hl, hc, _⟩ := key (k / P.cellsOf e) ((Nat.div_lt_iff_lt_mul hpos).2 hk)
      have hm := Nat.mod_lt k hpos
      have h1 := hc (k % P.cellsOf e) hm
      rw [show k / P.cellsOf e * P.cellsOf e + k % P.cellsOf e = k by rw [Nat.mul_comm]; exact Nat.div_add_mod k _] at h1
      rw [h1, List.getElem?_eq_getElem (by omega)]
      simp
    refine ⟨some a, len, cap, (List.range (len * P.cellsOf e)).map fun k => (W.cell? (a.add k)).getD undef, rfl, hlc, hcm, ⟨by simp, fun _ => ⟨a, rfl, trivial, fun j u hu => ?_⟩⟩, fun i hi => ?_⟩
    · rw [List.getElem?_map] at hu
      have hj : j < len * P.cellsOf e := by
        rcases Nat.lt_or_ge j (len * P.cellsOf e) with h | h
        · exact h
        · rw [List.getElem?_eq_none (by simpa using h)] at hu; cases hu
      rw [List.getElem?_range hj] at hu
      have h1 := hcell j hj
      cases hw : W.cell? (a.add j) with
      | none => exact absurd hw h1
      | some u' => simp only [Option.map_some, hw, Option.getD_some] at hu; exact hu
    · obtain ⟨ci, hl, hc, hop⟩ := key i hi
      have e1 : (((List.range (len * P.cellsOf e)).map fun k => (W.cell? (a.add k)).getD undef).drop (i * P.cellsOf e)).take (P.cellsOf e) = ci := by
        apply List.ext_getElem?
        intro j
        rw [List.getElem?_take, List.getElem?_drop]
        split
        · rename_i hj
          have hk : i * P.cellsOf e + j < len * P.cellsOf e := by
            have : (i + 1) * P.cellsOf e ≤ len * P.cellsOf e := Nat.mul_le_mul_right _ hi
            rw [Nat.add_mul, Nat.one_mul] at this
            omega
          rw [List.getElem?_map, List.getElem?_range hk]
          simp only [Option.map_some]
          rw [hc j hj, List.getElem?_eq_getElem (by omega)]
          simp
        · rw [List.getElem?_eq_none (by omega)]
      rw [e1]
      exact hop
/-- a slice of numbers -/
theorem Op_.ints {k : IntKind} (ht : P.underlying t = some (.slice e)) (he : P.underlying e = some (.int k)) (hz : P.cellsOf e = 1) (h : Op_ enc P W t cs) :
    ∃ A n c, ∃ zs : List Int, cs = [.slice A n c] ∧ n ≤ c ∧ c ≤ maxLen ∧ Rd W All 1 A n (zs.map (Value.int k)) ∧ ∀ z ∈ zs, (Lit.int k z).wf = true := by
  obtain ⟨A, n, c, xs, rfl, hnc, hcm, hrd, hop⟩ := h.slice ht hz
  have hl : xs.length = n := by simpa using hrd.1
  have key : ∀ i, (hi : i < n) → ∃ z, xs[i]? = some (.int k z) ∧ (Lit.int k z).wf = true := fun i hi => by
    obtain ⟨z, h1, h2⟩ := (hop i hi).int he
    refine ⟨z, ?_, h2⟩
    have := congrArg (fun l => l[0]?) h1
    simpa [List.getElem?_take, List.getElem?_drop] using this
  refine ⟨A, n, c, (List.range n).map fun i => if hi : i < n then (key i hi).choose else 0, rfl, hnc, hcm, ?_, ?_⟩
  · have e1 : ((List.range n).map fun i => if hi : i < n then (key i hi).choose else 0).map (Value.int k) = xs := by
      apply List.ext_getElem?
      intro j
      rcases Nat.lt_or_ge j n with hj | hj
      · rw [List.getElem?_map, List.getElem?_map, List.getElem?_range hj, (key j hj).choose_spec.1]
        simp [hj]
      · rw [List.getElem?_eq_none (by simpa using hj), List.getElem?_eq_none (by omega)]
    rw [e1]
    exact hrd
  · intro z hz
    obtain ⟨i, hi, rfl⟩ := List.mem_map.1 hz
    have hi' : i < n := by simpa using hi
    simp only [hi', dif_pos]
    exact (key i hi').choose_spec.2
/-- a slice of bytes -/
theorem Op_.bytes (ht : P.underlying t = some (.slice e)) (he : P.underlying e = some (.int .u8)) (hz : P.cellsOf e = 1) (h : Op_ enc P W t cs) :
    ∃ A n c l, cs = [.slice A n c] ∧ Bs W All A n c l := by
  obtain ⟨A, n, c, zs, rfl, hnc, hcm, hrd, hwf⟩ := h.ints ht he hz
  have e1 : zs.map (Value.int .u8) = (zs.map fun z => UInt8.ofNat z.toNat).map bv := by
    rw [List.map_map]
    apply List.map_congr_left
    intro z hz
    have := wf_u8 (hwf z hz)
    simp [bv]
    omega
  rw [e1] at hrd
  exact ⟨A, n, c, _, rfl, ⟨by have := hrd.1; simpa using this.symm, hnc, hcm, hrd⟩⟩
end
end Go.Proofs.YtdeffdldifepkaaGreat
namespace Go.Proofs.YtdeffdldifepkaaGreat
open Go.RowKit
open Asn (pt row rb)
set_option linter.unusedVariables false
set_option linter.unusedSimpArgs false
/-- the cells of a row whose element's cells f tells -/
def cellsL {α : Type} (f : α → List Value) (L : List α) : List Value := L.flatMap f
section
variable {α : Type} {f : α → List Value} {size : Nat}
theorem cellsL_len (hf : ∀ a, (f a).length = size) : ∀ L : List α, (cellsL f L).length = L.length * size
  | [] => by simp [cellsL]
  | x :: L => by
    have := cellsL_len hf L
    simp only [cellsL, List.flatMap_cons, List.length_append, List.length_cons] at this ⊢
    rw [this, hf, Nat.add_mul]
    omega
theorem cellsL_app (L M : List α) : cellsL f (L ++ M) = cellsL f L ++ cellsL f M := by simp [cellsL]
theorem cellsL_one (a : α) : cellsL f [a] = f a := by simp [cellsL]
theorem cellsL_drop (hf : ∀ a, (f a).length = size) : ∀ (L : List α) (j : Nat), cellsL f (L.drop j) = (cellsL f L).drop (j * size)
  | [], j => by simp [cellsL]
  | x :: L, 0 => by simp [cellsL]
  | x :: L, j + 1 => by
    have := cellsL_drop hf L j
    simp only [cellsL, List.drop_succ_cons, List.flatMap_cons] at this ⊢
    rw [this, List.drop_append, hf, List.drop_of_length_le (l := f x) (by rw [hf, Nat.add_mul]; omega), Nat.add_mul, Nat.one_mul, Nat.add_sub_cancel, List.nil_append]
theorem cellsL_at (hf : ∀ a, (f a).length = size) (L : List α) (d : α) (j : Nat) (hj : j < L.length) (e : Nat) (v : Value) (he : (f (L.getD j d))[e]? = some v) : (cellsL f L)[j * size + e]? = some v := by
  have hs := (List.getElem?_eq_some_iff.1 he).1
  have h := cellsL_drop hf L j
  have e1 : L.drop j = L.getD j d :: L.drop (j + 1) := by rw [List.drop_eq_getElem_cons hj]; simp [List.getD, hj]
  rw [e1, cellsL, List.flatMap_cons] at h
  rw [← List.getElem?_drop, ← h, List.getElem?_append_left hs]
  exact he
theorem rows_of {n : Nat} (hf : ∀ a, (f a).length = size) (ok : α → Prop) : ∀ (n : Nat) (xs : List Value), xs.length = n * size → (∀ i, i < n → ∃ a, (xs.drop (i * size)).take size = f a ∧ ok a) → ∃ K : List α, K.length = n ∧ xs = cellsL f K ∧ ∀ a ∈ K, ok a
  | 0, xs, hl, h => ⟨[], rfl, by simpa [cellsL] using hl, by simp⟩
  | n + 1, xs, hl, h => by
    obtain ⟨a, ha, hok⟩ := h 0 (by omega)
    rw [Nat.zero_mul, List.drop_zero] at ha
    obtain ⟨K, hK, hxs, hall⟩ := rows_of (n := n) hf ok n (xs.drop size) (by rw [List.length_drop, hl, Nat.add_mul]; omega) fun i hi => by
      obtain ⟨b, hb, hb2⟩ := h (i + 1) (by omega)
      refine ⟨b, ?_, hb2⟩
      rw [List.drop_drop, ← hb]
      congr 2
      rw [Nat.add_mul, Nat.one_mul, Nat.add_comm]
    refine ⟨a :: K, by simp [hK], ?_, ?_⟩
    · rw [cellsL, List.flatMap_cons, ← ha]
      conv => lhs; rw [← List.take_append_drop size xs, hxs]
      rfl
    · intro b hb
      rcases List.mem_cons.1 hb with rfl | hb
      · exact hok
      · exact hall b hb
end
/-! structs of plain fields, compared -/
def eqVal : Value → Value → Bool
  | .int _ a, .int _ b => a == b
  | .bool a, .bool b => a == b
  | .string a, .string b => a.toList == b.toList
  | _, _ => false
def plainD : TypeDesc → Value → Value → Bool
  | .int _, .int k _, .int k' _ => k == k'
  | .bool, .bool _, .bool _ => true
  | .string, .string _, .string _ => true
  | _, _, _ => false
def chkF (g : TypeId → Option Ti) (xs ys : Array Value) (f : Field) : Bool := f.name != "_" && (match g f.type, xs[f.offset]?, ys[f.offset]? with
  | some i, some a, some b => plainD i.desc a b && !aggB i.desc
  | _, _, _ => false)
def eqFl (xs ys : Array Value) (f : Field) : Bool := eqVal (xs.getD f.offset undef) (ys.getD f.offset undef)
section
variable {P : Program} {n : Nat} {w0 : World} {M : Nat → Prop} {T : Slots} {H Hr : List Asn} {dd : Option Tmp} {tt : TypeId} {pos : String} {af : Array Edge} {g : Option (Nat × Bool)} {x y z : Operand} {ts : Array TypeId}
theorem run_plainD (w : World) (d : Nat) {t : TypeId} {ds : TypeDesc} {a b : Value} (h : P.underlying t = some ds) (hp : plainD ds a b = true) : (Op.equalIn (d + 1) t a b).run P w = .ok (eqVal a b) w := by
  unfold plainD at hp
  split at hp
  · obtain rfl := of_decide_eq_true hp
    exact run_equalIn_int w d t _ _ _ _ h
  · exact run_equalIn_bool' w d t _ _ h
  · exact run_equalIn_string w d t _ _ h
  · cases hp
theorem run_eqFields [HasTab P] (w : World) (d : Nat) (xs ys : Array Value) : ∀ fs : List Field, (fs.all (chkF (ty P) xs ys)) = true → (Op.eqFields (d + 1) xs ys fs).run P w = .ok (fs.all (eqFl xs ys)) w
  | [], _ => by simp [Op.eqFields]
  | f :: fs, h => by
    simp only [List.all_cons, Bool.and_eq_true] at h
    obtain ⟨h1, h2⟩ := h
    have ih := run_eqFields w d xs ys fs h2
    simp only [chkF, Bool.and_eq_true, bne_iff_ne, ne_eq] at h1
    obtain ⟨hn, h1⟩ := h1
    split at h1
    · rename_i i a b hi ha hb
      simp only [Bool.and_eq_true, Bool.not_eq_true'] at h1
      have e1 := run_plainD w d (ty_ok hi) h1.1
      have p1 := part_plain (ty_ok hi) h1.2 ha w
      have p2 := part_plain (ty_ok hi) h1.2 hb w
      have e2 : eqFl xs ys f = eqVal a b := by simp [eqFl, Array.getD_eq_getD_getElem?, ha, hb]
      simp only [Op.eqFields, ne_eq, hn, not_false_eq_true, if_true, Sem.run_bind, p1, p2, e1, Result.andThen_ok, Sem.run_ite, List.all_cons, e2]
      cases eqVal a b
      · simp
      · simpa using ih
    · cases h1
theorem T_eqS [HasTab P] {s u : TypeId} {xs ys : Array Value} {fs : Array Field} {i : Ti} {r : Bool} (hx : oget T x = some (.agg xs)) (hy : oget T y = some (.agg ys)) (hs : ty P s = some i) (hi : i.desc = .struct fs) (hp : P.stoodInHeld s = false) (hg : P.eqGuardType P.depth s = false) (hc : (fs.toList.all (chkF (ty P) xs ys)) = true) (hr : fs.toList.all (eqFl xs ys) = r) :
    Tk P n w0 M T H ⟨dd, .binOp .eql s x y u, tt, pos, af, g⟩ (.bool r) := .mk fun a w ha hS => by
  have hu : P.underlying s = some (.struct fs) := hi ▸ ty_ok hs
  have hf : P.fieldsOf s = fs := by simp [Program.fieldsOf, hu]
  have h3 : (Op.equal s (.agg xs) (.agg ys)).run P w = .ok r w := by
    unfold Op.equal Op.maxDepth
    rw [show 10000 = 9998 + 1 + 1 from rfl, run_equalIn_struct w (9998 + 1) s xs ys (by rw [hf]; exact hu) hp, hf, run_eqFields w 9998 xs ys _ hc, hr]
  simp [execOp, ha.eval hx, ha.eval hy, eqGuard, hg, binOp, h3]
theorem T_neS [HasTab P] {s u : TypeId} {xs ys : Array Value} {fs : Array Field} {i : Ti} {r : Bool} (hx : oget T x = some (.agg xs)) (hy : oget T y = some (.agg ys)) (hs : ty P s = some i) (hi : i.desc = .struct fs) (hp : P.stoodInHeld s = false) (hg : P.eqGuardType P.depth s = false) (hc : (fs.toList.all (chkF (ty P) xs ys)) = true) (hr : fs.toList.all (eqFl xs ys) = r) :
    Tk P n w0 M T H ⟨dd, .binOp .neq s x y u, tt, pos, af, g⟩ (.bool (!r)) := .mk fun a w ha hS => by
  have hu : P.underlying s = some (.struct fs) := hi ▸ ty_ok hs
  have hf : P.fieldsOf s = fs := by simp [Program.fieldsOf, hu]
  have h3 : (Op.equal s (.agg xs) (.agg ys)).run P w = .ok r w := by
    unfold Op.equal Op.maxDepth
    rw [show 10000 = 9998 + 1 + 1 from rfl, run_equalIn_struct w (9998 + 1) s xs ys (by rw [hf]; exact hu) hp, hf, run_eqFields w 9998 xs ys _ hc, hr]
  simp [execOp, ha.eval hx, ha.eval hy, eqGuard, hg, binOp, h3]
end
/-! a literal of elements of any size -/
theorem vcells_eq (v : Value) : v.cells.toList = vcells v := by cases v <;> rfl
theorem set_run : ∀ (c pre zs : List Value) (s j : Nat), pre.length = s + j → c.length ≤ zs.length → (c.zipIdx j).foldl (fun cs x => cs.setIfInBounds (s + x.2) x.1) (pre ++ zs).toArray = (pre ++ c ++ zs.drop c.length).toArray
  | [], pre, zs, s, j, _, _ => by simp
  | x :: c, pre, z :: zs, s, j, hp, hl => by
    have e : (pre ++ z :: zs).toArray.setIfInBounds (s + j) x = ((pre ++ [x]) ++ zs).toArray := by
      apply Array.ext'
      simp [← hp]
    have ih := set_run c (pre ++ [x]) zs s (j + 1) (by simp; omega) (by simpa using hl)
    simp only [List.zipIdx_cons, List.foldl_cons, e, ih]
    simp
theorem fill_any {size : Nat} : ∀ (vs : List Value) (k : Nat) (pre : List Value) (zs : List Value), pre.length = k * size → zs.length = vs.length * size → (∀ v ∈ vs, (vcells v).length = size) →
    Instr.fill (fun i => some (i * size, size)) (pre ++ zs).toArray ((List.range' k vs.length).zip vs) = some (pre ++ vs.flatMap vcells).toArray
  | [], k, pre, zs, _, hz, _ => by
    have : zs = [] := List.eq_nil_of_length_eq_zero (by simpa using hz)
    subst this
    simp [Instr.fill]
  | v :: vs, k, pre, zs, hp, hz, h1 => by
    have hv : v.cells.toList.length = size := by rw [vcells_eq]; exact h1 v (by simp)
    have hv3 : (vcells v).length = size := h1 v (by simp)
    have hv2 : v.cells.size = size := by simpa using hv
    have hzl : zs.length = size + vs.length * size := by rw [hz, List.length_cons, Nat.add_mul]; omega
    have ih := fill_any vs (k + 1) (pre ++ vcells v) (zs.drop size) (by rw [List.length_append, hp, hv3, Nat.add_mul]; omega) (by rw [List.length_drop, hzl]; omega) (fun u hu => h1 u (by simp [hu]))
    rw [List.length_cons, List.range'_succ, List.zip_cons_cons, Instr.fill]
    have h3 : ((v.cells.size ≠ size) || decide (k * size + v.cells.size > (pre ++ zs).toArray.size)) = false := by
      simp [hv2, hp]
      omega
    simp only [h3, Bool.false_eq_true, if_false]
    have e := set_run v.cells.toList pre zs (k * size) 0 (by rw [hp, Nat.add_zero]) (by rw [hv, hzl]; omega)
    have e2 : (v.cells.zipIdx.foldl (fun cs x => cs.setIfInBounds (k * size + x.2) x.1) (pre ++ zs).toArray) = (pre ++ v.cells.toList ++ zs.drop size).toArray := by
      rw [← Array.foldl_toList, Array.toList_zipIdx, e, hv]
    rw [e2, show pre ++ v.cells.toList ++ List.drop size zs = (pre ++ vcells v) ++ List.drop size zs from by rw [vcells_eq], ih]
    simp
section
variable {P : Program} {n : Nat} {w0 : World} {M : Nat → Prop} {T : Slots} {H Hr : List Asn} {dd : Option Tmp} {tt : TypeId} {pos : String} {af : Array Edge} {g : Option (Nat × Bool)} {x y z : Operand} {ts : Array TypeId}
theorem E_litS [HasTab P] {s e : TypeId} {m size : Nat} {parts : Array (Nat × Operand)} {vs ds : List Value} {i ei : Ti} (hv : ogets T (parts.toList.map (·.2)) = some vs) (hp : parts.toList.map (·.1) = List.range m) (hs : ty P s = some i) (hi : i.desc = .slice e) (he : ty P e = some ei) (h1 : ei.size = size) (ho : ∀ v ∈ vs, (vcells v).length = size) (hd : vs.flatMap vcells = ds) (hm : m * size ≤ 1000) :
    Ef P n w0 M T H ⟨dd, .buildSlice s m parts, tt, pos, af, g⟩ (fun u H' => ∃ b, u = .slice (some ⟨b, 0, none⟩) m m ∧ H' = pt b e ds :: H) := .mk fun a w ha hS => by
  have hu := run_underlying (hi ▸ ty_ok hs) w
  have hev := ha.evals hv
  have hl : vs.length = m := by rw [← hev]; have := congrArg List.length hp; simpa using this
  have hparts : (parts.map fun x => (x.1, a.eval x.2)).toList = (List.range' 0 vs.length).zip vs := by
    rw [hl, ← List.range_eq_range', ← hp, ← hev]
    simp [List.zip_map']
  have hfill : ∀ zs : Array Value, zs.size = m * size → Instr.fill (fun i => some (i * size, size)) zs ((List.range' 0 vs.length).zip vs) = some ds.toArray := fun zs hz => by
    have h := fill_any vs 0 [] zs.toList (by simp) (by rw [hl]; simpa using hz) ho
    rw [hd] at h
    simpa using h
  have hrun : (Instr.buildSlice s m (parts.map fun x => (x.1, a.eval x.2))).run P w = .ok (.slice (some ⟨w.heap.size, 0, none⟩) m m) (w.alloc (.cells ds.toArray e)) := by
    have hle : ¬ m * size > 2 ^ 24 := by omega
    by_cases hm0 : m * size = 0
    · have hf := hfill ((Array.range (m * size)).map fun i => (#[] : Array Value)[i % (#[] : Array Value).size]!) (by simp)
      simp only [Instr.buildSlice, Sem.run_bind, hu, Result.andThen_ok, ty_size he w, h1, Sem.run_ite, if_neg hle, if_pos hm0, Sem.run_pure, hparts, hf]
      simp [newRow]
    · have hf := hfill ((Array.range (m * size)).map fun i => ei.zero.cells[i % ei.zero.cells.size]!) (by simp)
      simp only [Instr.buildSlice, Sem.run_bind, hu, Result.andThen_ok, ty_size he w, h1, Sem.run_ite, if_neg hle, if_neg hm0, ty_zero he w, Sem.run_pure, hparts, hf]
      simp [newRow]
  unfold Oper.wp
  simp only [execOp, Sem.run_bind, hrun, Result.andThen_ok, Sem.run_pure]
  refine ⟨_, _, ⟨w.heap.size, rfl, rfl⟩, rfl, hS.add (Kp.alloc w _) (Blk.new w e _) (fun k hk => ?_)⟩
  have hk : k = w.heap.size := hk
  subst hk
  simp
end
/-! elements of more than one cell, read and written -/
section
variable {P : Program} {n : Nat} {w0 : World} {M : Nat → Prop} {T : Slots} {H Hr : List Asn} {dd : Option Tmp} {tt : TypeId} {pos : String} {af : Array Edge} {g : Option (Nat × Bool)} {x y z : Operand} {ts : Array TypeId}
theorem T_lda [HasTab P] {s : TypeId} {A : Option Addr} {j sz m : Nat} {xs ds : List Value} {i : Ti} (hx : oget T x = some (.pointer (pa A j))) (hs : ty P s = some i) (hi : aggB i.desc = true) (hr : Srd w0 M H sz A m xs) (hl : ds.length = i.size) (h0 : 0 < m) (hv : ∀ e v, ds[e]? = some v → xs[j + e]? = some v) :
    Tk P n w0 M T H ⟨dd, .load s x, tt, pos, af, g⟩ (.agg ds.toArray) := .mk fun a w ha hS =>
  (T_loadoa (w0 := w) (M := owns []) (H := []) (n := n) (T := T) hx hs hi (hr.rd w hS) hl h0 hv (fun k _ => noOwns k)).run a w ha (St.enter w)
theorem T_ixM [HasTab P] {s e : TypeId} {A : Option Addr} {m c q sz : Nat} {w : Int} {kk : IntKind} {i ei : Ti} (hx : oget T x = some (.slice A m c)) (hy : oget T y = some (.int kk w)) [hz : NatOf w q] (hs : ty P s = some i) (hi : i.desc = .slice e) (he : ty P e = some ei) (h1 : ei.size = sz) (hA : A ≠ none) (hq : q < m) :
    Tk P n w0 M T H ⟨dd, .indexAddr s x y, tt, pos, af, g⟩ (.pointer (pa A (q * sz))) := by
  rw [hz.is] at hy
  subst h1
  exact T_ix hx hy hs hi he hA hq
end
end Go.Proofs.YtdeffdldifepkaaGreat
namespace Go.Proofs.YtdeffdldifepkaaGreat
open Go.RowKit
open Asn (pt row rb)
set_option linter.unusedVariables false
set_option linter.unusedSimpArgs false
/-- where an element's bytes lie, their room, and what they are -/
abbrev Dt := Option Addr × Nat × List UInt8
/-- the bytes of an element, owned -/
def dtA (e : TypeId) (d : Dt) : Asn := row e 1 d.1 d.2.2.length d.2.1 (d.2.2.map bv)
/-- the bytes of all elements, owned -/
def dtB (e : TypeId) (D : List Dt) : Asn := bun (D.map (dtA e))
/-- the bytes of all elements, read -/
def RDt (w : World) (F : Nat → Prop) (D : List Dt) : Prop := ∀ d ∈ D, Rd w F 1 d.1 d.2.2.length (d.2.2.map bv)
structure SDt (w0 : World) (M : Nat → Prop) (H : List Asn) (D : List Dt) : Prop where
  rd : ∀ w, St w0 M H w → RDt w All D
section
variable {w0 w : World} {M F : Nat → Prop} {H Hr : List Asn} {e : TypeId} {D : List Dt}
theorem SDt.old (h : RDt w0 F D) (hF : ∀ k, F k → ¬ M k) : SDt w0 M H D := ⟨fun w hS d hd => (Srd.old (h d hd) hF).rd w hS⟩
theorem SDt.own (hm : dtB e D ∈ H) : SDt w0 M H D := ⟨fun w hS d hd => by
  have h1 := (hS.all _ hm).1.1 (dtA e d) (List.mem_map.2 ⟨d, hd, rfl⟩)
  exact (Rd.of_own h1).more fun _ _ => trivial⟩
theorem SDt.sub {D' : List Dt} (h : SDt w0 M H D) (hs : ∀ d ∈ D', d ∈ D) : SDt w0 M H D' := ⟨fun w hS d hd => h.rd w hS d (hs d hd)⟩
theorem SDt.at_ (h : SDt w0 M H D) {d : Dt} (hd : d ∈ D) : Srd w0 M H 1 d.1 d.2.2.length (d.2.2.map bv) := ⟨fun w hS => h.rd w hS d hd⟩
theorem dtB_nil (h : St w0 M H w) : St w0 M (dtB e [] :: H) w := bun_in (L := []) h
theorem dtB_perm {D' : List Dt} (hp : D.Perm D') (h : St w0 M (dtB e D :: H) w) : St w0 M (dtB e D' :: H) w :=
  bun_in ((bun_out h).perm ((hp.map _).append_right _))
theorem dtB_put {d : Dt} (h : St w0 M (dtA e d :: dtB e D :: H) w) : St w0 M (dtB e (D ++ [d]) :: H) w := by
  have h1 : St w0 M (dtB e D :: dtA e d :: H) w := h.perm (List.Perm.swap _ _ _)
  have h2 := bun_out h1
  refine dtB_perm (D := d :: D) (List.perm_append_comm (l₁ := [d])) (bun_in (L := (d :: D).map (dtA e)) ?_)
  exact h2.perm List.perm_middle
end
section
variable {P : Program} {ro : Option Nat} {ds : List Deferred} {B : Bk ro ds} {n : Nat} {w0 : World} {M : Nat → Prop} {k : List It} {T : Slots} {H Hr : List Asn}
end
section
variable {P : Program} {n : Nat} {w0 : World} {M : Nat → Prop} {T : Slots} {H Hr : List Asn} {dd : Option Tmp} {tt : TypeId} {pos : String} {af : Array Edge} {g : Option (Nat × Bool)} {x y z z4 : Operand} {ts : Array TypeId}
theorem T_build2 {s : TypeId} {j k : Nat} {u v : Value} {cs : List Value} (hx : oget T x = some u) (hy : oget T y = some v) (hb : P.built s [(j, u), (k, v)] = some cs.toArray) :
    Tk P n w0 M T H ⟨dd, .build s #[(j, x), (k, y)], tt, pos, af, g⟩ (.agg cs.toArray) := .mk fun a w ha hS => by
  have hr := run_build (P := P) w s #[(j, u), (k, v)] cs.toArray (by simpa using hb)
  simp only [execOp, List.map_toArray, List.map_cons, List.map_nil, ha.eval hx, ha.eval hy, Sem.run_bind, hr, Result.andThen_ok, Sem.run_pure]
theorem T_build4 {s : TypeId} {j k l m : Nat} {u v v3 v4 : Value} {cs : List Value} (hx : oget T x = some u) (hy : oget T y = some v) (hz : oget T z = some v3) (h4 : oget T z4 = some v4) (hb : P.built s [(j, u), (k, v), (l, v3), (m, v4)] = some cs.toArray) :
    Tk P n w0 M T H ⟨dd, .build s #[(j, x), (k, y), (l, z), (m, z4)], tt, pos, af, g⟩ (.agg cs.toArray) := .mk fun a w ha hS => by
  have hr := run_build (P := P) w s #[(j, u), (k, v), (l, v3), (m, v4)] cs.toArray (by simpa using hb)
  simp only [execOp, List.map_toArray, List.map_cons, List.map_nil, ha.eval hx, ha.eval hy, ha.eval hz, ha.eval h4, Sem.run_bind, hr, Result.andThen_ok, Sem.run_pure]
end
/-- append, elements of any size -/
theorem E_appS {P : Program} {n : Nat} {w0 : World} {M : Nat → Prop} {T : Slots} {H Hr : List Asn} {dd : Option Tmp} {tt : TypeId} {pos : String} {af : Array Edge} {g : Option (Nat × Bool)} [HasTab P] {sz : Nat} {x y : Operand} {s e : TypeId} {A A2 : Option Addr} {m c m2 c2 : Nat} {xs news : List Value} {i ei : Ti} (hx : oget T x = some (.slice A m c)) (hy : oget T y = some (.slice A2 m2 c2)) (hs : ty P s = some i) (hi : i.desc = .slice e) (he : ty P e = some ei) (hsz : ei.size = sz) (hz : ei.zero.cells.size = sz) (hz0 : 0 < sz)
    [hr : HRow H A m c e sz xs Hr] (hsrc : Srd w0 M H sz A2 m2 news) (h1 : ∀ u ∈ news, u.oneCell' = true) (hb : (m + m2) * ei.bytes ≤ 140737488355328) (hm : m + m2 ≤ maxLen) :
    Ef P n w0 M T H ⟨dd, .call ⟨.builtin .append, #[x, y], #[s, s]⟩, tt, pos, af, g⟩ (fun v H' => ∃ A' c', v = .slice A' (m + m2) c' ∧ H' = row e sz A' (m + m2) c' (xs ++ news) :: Hr) := by
  subst hsz
  exact E_app hx hy hs hi he hz hz0 hsrc h1 hb hm
theorem gives_N2 {P : Program} {f : FuncId} {fn : Func} {vs : List Value} {w : World} {n : Nat} {As : List Asn} {X : Type} {I : X → Prop} {A : X → List Asn} (hf : P.funcs[f]? = some fn) (hb : fn.body.isSome = true) (hn : fn.ntmps = n) (hr : fn.results = #[])
    (hv : vs.length ≤ n) (hS : St w (owns As) As w) (h : ∀ B : Bk none [], (∀ (T : Slots) (H : List Asn), (∀ w', St w (owns As) H w' → ∃ x, I x ∧ St w (owns As) (A x) w') → RS P B n w (owns As) [] T H) →
      (∀ (c : Code) (k : List It) (T : Slots) (H : List Asn), kind c = .ret → (∀ w', St w (owns As) H w' → ∃ x, I x ∧ St w (owns As) (A x) w') → RS P B n w (owns As) (.code c :: k) T H) → RS P B n w (owns As) [.code (cbody fn)] (targs 0 vs) As) :
    Gives P f vs As w (fun _ => .tuple #[]) I A := by
  obtain ⟨c, hc⟩ := Option.isSome_iff_exists.1 hb
  refine calls_RS hf hc hn (rs := []) (by simpa using hr) hv hS fun B hB => ?_
  have h2 := h B (fun T H hw' => RS_end hB (rs := []) (vs := []) rfl fun w' hS' => by
    obtain ⟨x, hI, hA⟩ := hw' w' hS'
    exact ⟨x, rfl, hI, hA⟩) (fun c k T H hk hw' => S_ret hB hk (rs := []) (vs := []) rfl fun w' hS' => by
    obtain ⟨x, hI, hA⟩ := hw' w' hS'
    exact ⟨x, rfl, hI, hA⟩)
  have e : cbody fn = c := by unfold cbody; rw [hc]
  rwa [e] at h2
theorem rd_old {w0 w : World} {M : Nat → Prop} {H : List Asn} {sz n : Nat} {A : Option Addr} {xs : List Value} (h : Rd w0 All sz A n xs) (hz : 0 < sz) (hM : ∀ k, ¬ M k) (hS : St w0 M H w) {F : Nat → Prop} (hF : ∀ k, k < w0.heap.size → F k) : Rd w F sz A n xs :=
  ⟨h.1, fun hn => by
    obtain ⟨ad, e, _, hc⟩ := h.2 hn
    have hl : 0 < xs.length := by rw [h.1]; exact Nat.mul_pos hn hz
    have hb := World.block_lt_of_cell? w0 _ (hc 0 xs[0] (List.getElem?_eq_getElem hl))
    rw [block_of_add] at hb
    exact ⟨ad, e, hF _ hb, fun j u hu => hS.kp.cell (by rw [block_of_add]; exact hM _) (hc j u hu)⟩⟩
theorem rd_blk {w0 w : World} {M : Nat → Prop} {L H : List Asn} {b t m : Nat} {cs : List Value} [hm : Hat H b t cs] (hS : St w0 M (L ++ H) w) (hl : cs.length = m) {F : Nat → Prop} (hF : F b) : Rd w F 1 (some ⟨b, 0, none⟩) m cs :=
  ⟨by omega, fun _ => ⟨_, rfl, hF, fun j v hj => by rw [add_plain]; exact hS.cell (List.mem_append_right _ hm.mem) (by simpa using hj)⟩⟩
/-- what an iterator may read lies apart from what the rounds turn -/
theorem reads_ok {w0 w : World} {L Hk : List Asn} {b t : Nat} {cs : List Value} [hm : Hat Hk b t cs] (hS : St w0 (owns []) (L ++ Hk) w) : ∀ q, (q < w0.heap.size ∨ q = b) → ¬ owns L q ∧ q < w.heap.size := fun q hq => by
  have hb := hS.all (pt b t cs) (by simp [hm.mem])
  rcases hq with hq | rfl
  · refine ⟨fun ⟨A, hA, hk⟩ => ?_, Nat.lt_of_lt_of_le hq hS.kp.size⟩
    rcases ((hS.all A (by simp [hA])).2 q hk).1 with h | h
    · exact noOwns _ h
    · omega
  · exact ⟨fun ⟨A, hA, hk⟩ => (List.pairwise_append.1 hS.apart).2.2 A hA (pt q t cs) hm.mem q hk rfl, (hb.2 q rfl).2⟩
def zi (z : Int) : Value := .int .i64 z
end Go.Proofs.YtdeffdldifepkaaGreat
namespace Go.Proofs.YtdeffdldifepkaaGreat
open Go.RowKit
open Asn (pt row rb)
set_option linter.unusedVariables false
set_option linter.unusedSimpArgs false
/-- what is known of memory -/
abbrev Kw := World → Prop
def K2 (D : Kw) (Z : Asn) : Kw := fun w => D w ∧ Z.holds w
/-- nothing -/
def zN : Asn := bun []
/-- two parts as one -/
def zA (A Z : Asn) : Asn := bun [A, Z]
section
variable {w0 w w' : World} {M : Nat → Prop} {H Hr As As' : List Asn} {A Z C : Asn} {D : Kw}
theorem zN_in (h : St w0 M H w) : St w0 M (zN :: H) w := bun_in (L := []) h
theorem zA_in (h : St w0 M (A :: Z :: H) w) : St w0 M (zA A Z :: H) w := bun_in (L := [A, Z]) h
theorem zA_l (h : (zA A Z).holds w) : A.holds w := h.1 A (by simp)
theorem zA_r (h : (zA A Z).holds w) : Z.holds w := h.1 Z (by simp)
theorem K2.old (h : K2 D (zA C Z) w) : K2 D Z w := ⟨h.1, zA_r h.2⟩
theorem K2.up (h : K2 D (zA C Z) w) : K2 (K2 D Z) C w := ⟨⟨h.1, zA_r h.2⟩, zA_l h.2⟩
/-- what is known in a world, and stays so whatever becomes of the parts As -/
def Kd (D : Kw) (As : List Asn) (w : World) : Prop := ∀ w', Kp (fun k => ¬ owns As k) w w' → D w'
theorem Kd.now (h : Kd D As w) : D w := h w (Kp.refl _ _)
theorem Kd.at_ (h : Kd D As w) (hS : St w (owns As) H w') : D w' := h w' hS.kp
theorem Kd.k2 (h : Kd D As w) (hS : St w (owns As) H w') (hZ : Z ∈ H) : K2 D Z w' := ⟨h w' hS.kp, (hS.all Z hZ).1⟩
theorem RemC.mem [r : RemC H A Hr] : A ∈ H := r.perm.mem_iff.2 (by simp)
theorem Kd.in_ [r : RemC H Z Hr] (h : Kd D As w) (hS : St w (owns As) H w') : K2 D Z w' := h.k2 hS r.mem
theorem Kd.sub (h : Kd D As w) (hS : St w (owns As) (As' ++ Hr) w') (hZ : Z ∈ Hr) : Kd (K2 D Z) As' w' := fun w2 hk => by
  have hap := List.pairwise_append.1 hS.apart
  refine ⟨h w2 ⟨hS.kp.os ▸ hk.os, hS.kp.tape ▸ hk.tape, hS.kp.output ▸ hk.output, Nat.le_trans hS.kp.size hk.size, fun k hn hlt => ?_⟩, ?_⟩
  · rw [hk.block k (fun ⟨B, hB, ho⟩ => ?_) (Nat.lt_of_lt_of_le hlt hS.kp.size)]
    · exact hS.kp.block k hn hlt
    · rcases ((hS.all B (List.mem_append_left _ hB)).2 k ho).1 with h1 | h1
      · exact hn h1
      · omega
  · refine Z.stable w' w2 (hk.mono fun k ho _ ⟨B, hB, hb⟩ => ?_) (hS.all Z (List.mem_append_right _ hZ)).1
    exact hap.2.2 B hB Z hZ k hb ho
/-- of what is read all is known -/
theorem Srd.kn [r : RemC H Z Hr] {sz n : Nat} {B : Option Addr} {xs : List Value} (h : Kd D As w) (f : ∀ w', K2 D Z w' → Rd w' All sz B n xs) : Srd w (owns As) H sz B n xs := ⟨fun w' hS => f w' (h.in_ hS)⟩
theorem Src.kn [r : RemC H Z Hr] {n c : Nat} {B : Option Addr} {l : List UInt8} (h : Kd D As w) (f : ∀ w', K2 D Z w' → Bs w' All B n c l) : Src w (owns As) H B n c l := ⟨fun w' hS => f w' (h.in_ hS)⟩
theorem Srd.kd {sz n : Nat} {B : Option Addr} {xs : List Value} (h : Kd D As w) (f : ∀ w', D w' → Rd w' All sz B n xs) : Srd w (owns As) H sz B n xs := ⟨fun w' hS => f w' (h.at_ hS)⟩
theorem Src.kd {n c : Nat} {B : Option Addr} {l : List UInt8} (h : Kd D As w) (f : ∀ w', D w' → Bs w' All B n c l) : Src w (owns As) H B n c l := ⟨fun w' hS => f w' (h.at_ hS)⟩
/-- facts of an own row and of an own bundle of bytes, where they are known -/
theorem row_rd {e : TypeId} {sz n c : Nat} {B : Option Addr} {xs : List Value} (h : (row e sz B n c xs).holds w) : Rd w All sz B n xs := (Rd.of_own h).more fun _ _ => trivial
theorem dtB_bsW {e : TypeId} {L : List Dt} (h : (dtB e L).holds w) : ∀ d ∈ L, Bs w All d.1 d.2.2.length d.2.1 d.2.2 := fun d hd => by
  have h1 := h.1 (dtA e d) (List.mem_map.2 ⟨d, hd, rfl⟩)
  exact (Bs.of_own (e := e) h1).more fun _ _ => trivial
end
section
variable {P : Program} {ro : Option Nat} {ds : List Deferred} {B : Bk ro ds} {n : Nat} {w0 : World} {M : Nat → Prop} {k : List It} {T : Slots} {H H1 H2 Hr : List Asn}
theorem RS_zN (h : RS P B n w0 M k T (zN :: H)) : RS P B n w0 M k T H := RS_mem (fun w hS => zN_in hS) h
end
section
variable {P : Program} {n : Nat} {w0 : World} {T : Slots} {As H H1 H2 Hr : List Asn} {dd : Option Tmp} {tt : TypeId} {pos : String} {af : Array Edge} {g : Option (Nat × Bool)} {ts : Array TypeId} {f : FuncId} {xs : Array Operand} {vs vs' : List Value} {X : Type} {V : X → Value} {I : X → Prop} {A1 Z : Asn} {Q C : X → Asn} {D : Kw}
end
end Go.Proofs.YtdeffdldifepkaaGreat
namespace Go.Proofs.YtdeffdldifepkaaGreat
open Go.RowKit
open Asn (pt row rb)
set_option linter.unusedVariables false
set_option linter.unusedSimpArgs false
/-- a plain field of a struct's value -/
theorem field_run {P : Program} [HasTab P] {s ft : TypeId} {j o : Nat} {i fi : Ti} {xs : List Value} {v : Value} (hs : ty P s = some i) (hf : nth i.fs j = some (o, ft)) (hft : ty P ft = some fi) (ha : aggB fi.desc = false) (hv : xs[o]? = some v) (w : World) : (Instr.field s (.agg xs.toArray) j).run P w = .ok v w := by
  have hf := fieldOf_fs hs hf
  have hu := run_underlying (ty_ok hs) w
  cases hd : i.desc with
  | struct fs =>
    rw [hd] at hf hu
    obtain ⟨f, hf1, hf2⟩ := Option.map_eq_some_iff.1 hf
    simp only [Prod.mk.injEq] at hf2
    obtain ⟨rfl, rfl⟩ := hf2
    have hp := part_plain (P := P) (e := f.type) (ty_ok hft) ha (xs := xs.toArray) (off := f.offset) (v := v) (by simpa using hv) w
    simp [Instr.field, hu, hf1, asAgg, hp]
  | _ => rw [hd] at hf; cases hf
theorem T_fldv {P : Program} [HasTab P] {n : Nat} {w0 : World} {M : Nat → Prop} {T : Slots} {H : List Asn} {dd : Option Tmp} {tt : TypeId} {pos : String} {af : Array Edge} {g : Option (Nat × Bool)} {x : Operand} {s ft : TypeId} {j o : Nat} {i fi : Ti} {xs : List Value} {v : Value} (hx : oget T x = some (.agg xs.toArray)) (hs : ty P s = some i) (hf : nth i.fs j = some (o, ft)) (hft : ty P ft = some fi) (ha : aggB fi.desc = false) (hv : xs[o]? = some v) :
    Tk P n w0 M T H ⟨dd, .field s x j, tt, pos, af, g⟩ v := .mk fun a w hT hS => by
  simp only [execOp, hT.eval hx, Sem.run_bind, field_run hs hf hft ha hv w, Result.andThen_ok, Sem.run_pure]
end Go.Proofs.YtdeffdldifepkaaGreat
namespace Go.Proofs.YtdeffdldifepkaaGreat
open Go.RowKit
open Go.Lib (hid)

end Go.Proofs.YtdeffdldifepkaaGreat
namespace Go.Proofs.YtdeffdldifepkaaGreat
open Go.RowKit
open Go.Lib (hid)

end Go.Proofs.YtdeffdldifepkaaGreat
namespace Go.Proofs.YtdeffdldifepkaaGreat
open Go.RowKit
open Go.Lib (hid)
end Go.Proofs.YtdeffdldifepkaaGreat
namespace Go.Proofs.YtdeffdldifepkaaGreat
open Go.RowKit
open Go.Lib (hid)
end Go.Proofs.YtdeffdldifepkaaGreat
namespace Go.Proofs.YtdeffdldifepkaaGreat
open Go.RowKit
open Go.Lib (hid)

/-- how many bytes are taken off -/
def tookN (len : Nat) (why n : Int) : Nat := if why = 0 ∧ 0 ≤ n ∧ n ≤ len then n.toNat else 0
/-- the error behind it -/
def whyN (len : Nat) (why n : Int) : Int := if why = 0 then (if n < 0 then 2 else if (len : Int) < n then 7 else 0) else why
end Go.Proofs.YtdeffdldifepkaaGreat
namespace Go.Proofs.YtdeffdldifepkaaGreat
open Go.RowKit
open Go.Lib (hid)
end Go.Proofs.YtdeffdldifepkaaGreat
namespace Go.Proofs.YtdeffdldifepkaaGreat
open Go.RowKit
open Asn (pt row rb)
set_option linter.unusedVariables false
set_option linter.unusedSimpArgs false
section
variable {n : Nat} {w0 : World} {M : Nat → Prop} {T : Slots} {H Hr : List Asn} {dd : Option Tmp} {tt : TypeId} {pos : String} {af : Array Edge} {g : Option (Nat × Bool)} {x y : Operand} {ts : Array TypeId}
end
end Go.Proofs.YtdeffdldifepkaaGreat
namespace Go.Proofs.YtdeffdldifepkaaGreat
open Go.RowKit
open Asn (pt row rb)
/-- one step of a reader: t is taken off -/
structure Rstep (l : List UInt8) (why n : Int) (t l1 : List UInt8) (why1 : Int) : Prop where
  ht : t = l.take (tookN l.length why n)
  hl : l1 = l.drop (tookN l.length why n)
  hw : why1 = whyN l.length why n
  len : l1.length ≤ l.length
section
variable {n : Nat} {w0 : World} {M : Nat → Prop} {T : Slots} {H Hr : List Asn} {dd : Option Tmp} {tt : TypeId} {pos : String} {af : Array Edge} {g : Option (Nat × Bool)} {x y : Operand} {ts : Array TypeId} {gb : Nat} {F : Nat → Prop} {l : List UInt8} {why : Int}
end
end Go.Proofs.YtdeffdldifepkaaGreat
namespace Go.Proofs.YtdeffdldifepkaaGreat
open Go.RowKit
def zv (n : Int) : Value := .int .i64 n
theorem zv_at {l : List Int} {j : Nat} (h : j < l.length) : (l.map zv)[j]? = some (zv (l.getD j 0)) := by
  rw [List.getElem?_map, List.getElem?_eq_getElem h]
  simp [List.getD, h]
end Go.Proofs.YtdeffdldifepkaaGreat
namespace Go.Proofs.YtdeffdldifepkaaGreat.C
open Go.RowKit
open Asn (pt row rb)
set_option linter.unusedVariables false
set_option linter.unusedSimpArgs false
--@use N

def memb (m : Int) : Bool := decide (1 ≤ m ∧ m ≤ 5)
/-- the loop of Check: may they be so far, and the last -/
def chk : List Int → Bool × Int → Bool × Int
  | [], s => s
  | m :: ms, s => chk ms (s.1 && memb m && decide (s.2 < m), m)
def right (ms : List Int) : Bool := (chk ms (decide ((0 : Int) < (ms.length : Int)), 0)).1
theorem chk_next (ms : List Int) (s : Bool × Int) (j : Nat) (h : j < ms.length) : chk (ms.take (j + 1)) s = ((chk (ms.take j) s).1 && memb (ms.getD j 0) && decide ((chk (ms.take j) s).2 < ms.getD j 0), ms.getD j 0) := by
  induction ms generalizing s j with
  | nil => cases h
  | cons m ms ih =>
    cases j with
    | zero => simp [chk]
    | succ j =>
      simp only [List.take_succ_cons, chk, List.getD_cons_succ]
      exact ih _ j (by simpa using h)

set_option maxRecDepth 100000 in
set_option maxHeartbeats 4000000 in
theorem member_any (w : World) (m : Int) :
    Gives Tryz.prog 156 [zv m] [] w (X := Unit) (fun _ => .bool (memb m)) (fun _ => True) (fun _ => []) := by
  refine gives_S Tryz.func156 rfl Tryz.ntmps156 Tryz.results156 (by simp) (St.enter w) (fun B hB => ?_)
  focus (refine qs ?_; refine qp ?_; refine qn ?_; (iterate 3 refine qp ?_); (refine R_splitd rfl rfl (fun hs => ?_) (fun hs => ?_)); (iterate 4 refine qp ?_); refine qz ?_; rotate_left; refine qk ?_; refine qk ?_; refine qp ?_; refine qp ?_; refine qz ?_; rotate_left)
  all_goals (refine hB _ _ _ _ _ rfl rfl fun w' hS => ⟨(), ?_, trivial, hS⟩)
  all_goals (simp [memb, *]; rfl)
theorem nan_any (w : World) (m : Int) :
    Gives Tryz.prog 186 [zv m] [] w (X := Unit) (fun _ => .bool false) (fun _ => True) (fun _ => []) := by
  refine gives_S Tryz.func186 rfl Tryz.ntmps186 Tryz.results186 (by simp) (St.enter w) (fun B hB => ?_)
  focus (refine qs ?_; refine qp ?_; refine qn ?_; (iterate 4 refine qp ?_); refine qz ?_)
  all_goals (refine hB _ _ _ _ _ rfl rfl fun w' hS => ⟨(), ?_, trivial, hS⟩)
  all_goals (simp; rfl)
theorem nan2_any (w : World) (m : Int) :
    Gives Tryz.prog 180 [zv m] [] w (X := Unit) (fun _ => .bool false) (fun _ => True) (fun _ => []) := by
  refine gives_S Tryz.func180 rfl Tryz.ntmps180 Tryz.results180 (by simp) (St.enter w) (fun B hB => ?_)
  focus (refine qs ?_; refine qp ?_; refine qn ?_; (iterate 4 refine qp ?_); refine qz ?_)
  all_goals (refine hB _ _ _ _ _ rfl rfl fun w' hS => ⟨(), ?_, trivial, hS⟩)
  all_goals (simp; rfl)
section
variable {n : Nat} {w0 : World} {M : Nat → Prop} {T : Slots} {H Hr : List Asn} {dd : Option Tmp} {tt : TypeId} {pos : String} {af : Array Edge} {g : Option (Nat × Bool)} {x y z : Operand} {ts : Array TypeId}
theorem E_nan {a : Int} (hx : oget T x = some (zv a)) :
    Ef Tryz.prog n w0 M T H ⟨dd, .call ⟨.value (.func 186), #[x], ts⟩, tt, pos, af, g⟩ (fun u H' => u = .bool false ∧ H' = H) := by
  refine (E_gv ⟨_, Tryz.func186, rfl, by kernel_rfl⟩ (vs := [zv a]) (by simp [ogets, hx]) fun w hS => nan_any w a).mono ?_
  rintro v H' ⟨_, rfl, _, rfl⟩ w hS
  exact ⟨_, _, rfl, ⟨rfl, rfl⟩, hS⟩
theorem E_nan2 {a : Int} (hx : oget T x = some (zv a)) :
    Ef Tryz.prog n w0 M T H ⟨dd, .call ⟨.value (.func 180), #[x], ts⟩, tt, pos, af, g⟩ (fun u H' => u = .bool false ∧ H' = H) := by
  refine (E_gv ⟨_, Tryz.func180, rfl, by kernel_rfl⟩ (vs := [zv a]) (by simp [ogets, hx]) fun w hS => nan2_any w a).mono ?_
  rintro v H' ⟨_, rfl, _, rfl⟩ w hS
  exact ⟨_, _, rfl, ⟨rfl, rfl⟩, hS⟩
theorem E_member {a : Int} (hx : oget T x = some (zv a)) :
    Ef Tryz.prog n w0 M T H ⟨dd, .call ⟨.value (.func 156), #[x], ts⟩, tt, pos, af, g⟩ (fun u H' => u = .bool (memb a) ∧ H' = H) := by
  refine (E_gv ⟨_, Tryz.func156, rfl, by kernel_rfl⟩ (vs := [zv a]) (by simp [ogets, hx]) fun w hS => member_any w a).mono ?_
  rintro v H' ⟨_, rfl, _, rfl⟩ w hS
  exact ⟨_, _, rfl, ⟨rfl, rfl⟩, hS⟩
end
set_option maxRecDepth 100000 in
set_option maxHeartbeats 4000000 in
theorem less_any (w : World) (a b : Int) :
    Gives Tryz.prog 179 [zv a, zv b] [] w (X := Unit) (fun _ => .bool (decide (a < b))) (fun _ => True) (fun _ => []) := by
  refine gives_S Tryz.func179 rfl Tryz.ntmps179 Tryz.results179 (by simp) (St.enter w) (fun B hB => ?_)
  focus (refine qs ?_; refine qp ?_; refine qn ?_; refine qp ?_; (refine qe (E_nan rfl) ?_; rintro _ _ ⟨rfl, rfl⟩); refine qp ?_; (iterate 3 refine qk ?_); (iterate 7 refine qp ?_); refine qz ?_)
  all_goals (refine hB _ _ _ _ _ rfl rfl fun w' hS => ⟨(), ?_, trivial, hS⟩)
  all_goals first | rfl | (simp [*]; rfl)
section
variable {n : Nat} {w0 : World} {M : Nat → Prop} {T : Slots} {H Hr : List Asn} {dd : Option Tmp} {tt : TypeId} {pos : String} {af : Array Edge} {g : Option (Nat × Bool)} {x y z : Operand} {ts : Array TypeId}
theorem E_less {a b : Int} (hx : oget T x = some (zv a)) (hy : oget T y = some (zv b)) :
    Ef Tryz.prog n w0 M T H ⟨dd, .call ⟨.value (.func 179), #[x, y], ts⟩, tt, pos, af, g⟩ (fun u H' => u = .bool (decide (a < b)) ∧ H' = H) := by
  refine (E_gv ⟨_, Tryz.func179, rfl, by kernel_rfl⟩ (vs := [zv a, zv b]) (by simp [ogets, hx, hy]) fun w hS => less_any w a b).mono ?_
  rintro v H' ⟨_, rfl, _, rfl⟩ w hS
  exact ⟨_, _, rfl, ⟨rfl, rfl⟩, hS⟩
end
end Go.Proofs.YtdeffdldifepkaaGreat.C
namespace Go.Proofs.YtdeffdldifepkaaGreat.C
open Go.RowKit
open Asn (pt row rb)
set_option linter.unusedVariables false
set_option linter.unusedSimpArgs false
--@use N

def cfv (A : Option Addr) (n c : Nat) : Value := .agg #[.slice A n c]
def chkE (ms : List Int) : Int := if right ms then 0 else 240
theorem zv_at {l : List Int} {j : Nat} (h : j < l.length) : (l.map zv)[j]? = some (zv (l.getD j 0)) := by
  simp [List.getD, h]
set_option maxRecDepth 100000 in
set_option maxHeartbeats 4000000 in
theorem check_any (w : World) (A : Option Addr) (n c : Nat) (ms : List Int) (h : Rd w All 1 A n (ms.map zv)) (hn : n ≤ 100000) :
    Gives Tryz.prog 95 [cfv A n c] [] w (X := Unit) (fun _ => .int .i64 (chkE ms)) (fun _ => True) (fun _ => []) := by
  refine gives_S Tryz.func95 rfl Tryz.ntmps95 Tryz.results95 (by simp) (St.enter w) (fun B hB => ?_)
  have hl : ms.length = n := by have := h.1; simpa using this
  have hne : 0 < n → A ≠ none := fun h0 => by obtain ⟨ad, rfl, _⟩ := h.2 h0; simp
  subst hl
  have hld : ∀ j, j < ms.length → (ms.map zv)[j]? = some (zv (ms.getD j 0)) := fun j hj => zv_at hj
  focus (refine qs ?_; (refine qe (E_boxa rfl) ?_; rintro _ _ ⟨b, rfl, rfl⟩); (iterate 2 refine qp ?_; refine qn ?_); refine qp ?_; refine qt (T_load rfl rfl rfl (by first | rfl | assumption)) ?_; (iterate 3 refine qp ?_); refine qz ?_; refine qq ?_; refine qs ?_; refine qp ?_; refine qt (T_load rfl rfl rfl (by first | rfl | assumption)) ?_; refine qp ?_; refine qp ?_; refine qz ?_; refine qb ?_)
  obtain ⟨st, hst⟩ : ∃ st : Nat → Bool × Int, ∀ j, st j = chk (ms.take j) (decide ((0 : Int) < (ms.length : Int)), 0) := ⟨_, fun _ => rfl⟩
  have hs0 := hst 0
  have hsn := hst ms.length
  have hnx : ∀ j, j < ms.length → st (j + 1) = ((st j).1 && memb (ms.getD j 0) && decide ((st j).2 < ms.getD j 0), ms.getD j 0) := fun j hj => by rw [hst, hst, chk_next ms _ j hj]
  refine S_loop (X := Nat) (fun j => [(3, zv (st j).2), (4, .bool (st j).1), (12, .slice A ms.length c), (13, .int .i64 (ms.length : Int)), (14, .int .i64 (j : Int))]) (fun _ => _) (fun j => j ≤ ms.length) (fun j => ms.length - j) rfl 0 (Nat.zero_le _) ?_ (fun _ h => h) ?_
  · rw [hs0]; exact (Sub.cons rfl (Sub.cons rfl (Sub.cons rfl (Sub.cons rfl (Sub.cons rfl Sub.nil)))))
  intro j hj J hJ
  obtain ⟨x, hx⟩ : ∃ x, ms.getD j 0 = x := ⟨_, rfl⟩
  have hnx' := hnx j
  have hld' := hld j
  obtain ⟨b, hb⟩ : ∃ b, (st j).1 = b := ⟨_, rfl⟩
  obtain ⟨y, hy⟩ : ∃ y, (st j).2 = y := ⟨_, rfl⟩
  rw [hx] at hnx' hld'
  rw [hb, hy] at hnx' ⊢
  focus (refine qs ?_; refine qp ?_; refine qz ?_; refine qq ?_; (refine S_if rfl rfl (fun hs => ?_) (fun hs => ?_)); refine qx ?_; refine qq ?_; refine qb ?_; refine qs ?_; refine qt (T_ixN rfl rfl rfl rfl rfl rfl (by first | assumption | exact hne (by omega) | exact hne2 (by omega)) (by omega)) ?_; refine qt (T_ldr rfl rfl rfl (Srd.old h (fun k _ => noOwns k)) (by omega) (hld' (by omega))) ?_; refine qp ?_; refine qn ?_; refine qp ?_; refine qp ?_; (refine R_split rfl rfl (fun hs => ?_) (fun hs => ?_)); refine qp ?_; (refine qe (E_member rfl) ?_; rintro _ _ ⟨rfl, rfl⟩); refine qp ?_; refine qp ?_; (refine R_splitd rfl rfl (fun hs => ?_) (fun hs => ?_)); (iterate 5 refine qp ?_); refine qz ?_; refine qr ?_; refine qp ?_; refine qp ?_; refine qz ?_; refine RS_blk ?_; refine qr ?_; refine qt (T_addN rfl rfl (by unfold fits; omega)) ?_; refine qp ?_; refine qz ?_; rotate_left; (iterate 3 refine qk ?_); refine qp ?_; refine qp ?_; refine qz ?_; refine qr ?_; refine qp ?_; refine qp ?_; refine qz ?_; refine RS_blk ?_; refine qr ?_; refine qt (T_addN rfl rfl (by unfold fits; omega)) ?_; refine qp ?_; refine qz ?_; rotate_left; refine qk ?_; refine qk ?_; refine qp ?_; refine qp ?_; (iterate 3 refine qk ?_); refine qp ?_; refine qp ?_; refine qz ?_; refine qr ?_; refine qp ?_; refine qp ?_; refine qz ?_; refine RS_blk ?_; refine qr ?_; refine qt (T_addN rfl rfl (by unfold fits; omega)) ?_; refine qp ?_; refine qz ?_; rotate_left; refine S_exit rfl rfl ?_; refine qq ?_; refine qs ?_; refine qp ?_; refine qt (T_not rfl) ?_; refine qz ?_; (refine S_cond rfl rfl (fun hs => ?_) (fun hs => ?_)); refine qs ?_; refine qp ?_; refine qz ?_; rotate_left; refine qx ?_; refine qs ?_; refine qp ?_; refine qz ?_; rotate_left)
  · refine hJ (j + 1) _ _ (by omega) ?_ (fun _ h => h) (by omega)
    rw [hnx' (by omega), show (b && memb x && decide (y < x)) = decide (y < x) by simp [memb, *]]
    exact (Sub.cons rfl (Sub.cons rfl (Sub.cons rfl (Sub.cons rfl (Sub.cons rfl Sub.nil)))))
  · refine hJ (j + 1) _ _ (by omega) ?_ (fun _ h => h) (by omega)
    rw [hnx' (by omega), show (b && memb x && decide (y < x)) = false by rw [show memb x = false by simp only [memb]; exact decide_eq_false (by assumption), Bool.and_false, Bool.false_and]]
    exact (Sub.cons rfl (Sub.cons rfl (Sub.cons rfl (Sub.cons rfl (Sub.cons rfl Sub.nil)))))
  · refine hJ (j + 1) _ _ (by omega) ?_ (fun _ h => h) (by omega)
    rw [hnx' (by omega), show (b && memb x && decide (y < x)) = false by simp [*]]
    exact (Sub.cons rfl (Sub.cons rfl (Sub.cons rfl (Sub.cons rfl (Sub.cons rfl Sub.nil)))))
  all_goals
    have hjn : j = ms.length := by omega
    subst hjn
    have hr : right ms = b := by rw [right, ← hb, hst, List.take_length]
    refine hB _ _ _ _ _ rfl rfl fun w' hS => ⟨(), ?_, trivial, hS.sublist (List.nil_sublist _)⟩
    rw [chkE, hr]
    simp_all
    try rfl
end Go.Proofs.YtdeffdldifepkaaGreat.C
namespace Go.Proofs.YtdeffdldifepkaaGreat.C
open Go.RowKit
open Asn (pt row rb)
set_option linter.unusedVariables false
set_option linter.unusedSimpArgs false
--@use N

section
variable {n : Nat} {w0 : World} {M : Nat → Prop} {T : Slots} {H Hr : List Asn} {dd : Option Tmp} {tt : TypeId} {pos : String} {af : Array Edge} {g : Option (Nat × Bool)} {x y z : Operand} {ts : Array TypeId}
theorem T_shrN {P : Program} {t u : TypeId} {kk kj : IntKind} {i j : Int} {p q : Nat} (hx : oget T x = some (.int kk i)) (hy : oget T y = some (.int kj j)) [hi : NatOf i p] [hj : NatOf j q] (hq : q ≤ kk.bits) :
    Tk P n w0 M T H ⟨dd, .binOp .shr t x y u, tt, pos, af, g⟩ (.int kk ((p / 2 ^ q : Nat) : Int)) := by
  rw [hi.is] at hx
  rw [hj.is] at hy
  have h := T_shr (P := P) (n := n) (w0 := w0) (M := M) (H := H) (dd := dd) (tt := tt) (pos := pos) (af := af) (g := g) (t := t) (u := u) hx hy (by omega)
  have e : Int.fdiv (p : Int) (2 ^ (min ((q : Int)).toNat kk.bits)) = ((p / 2 ^ q : Nat) : Int) := by
    have e1 : min ((q : Int)).toNat kk.bits = q := by rw [Int.toNat_natCast]; omega
    rw [e1, Int.fdiv_eq_ediv_of_nonneg _ (Int.le_of_lt (Int.pow_pos (by decide))), Int.natCast_ediv, Int.natCast_pow]
    rfl
  rwa [e] at h
end
/-- how many are less: of members that go up, where it is or goes -/
def cut (ms : List Int) (m : Int) : Nat := ms.findIdx (fun x => decide (m ≤ x))
def Up_ (ms : List Int) : Prop := ms.Pairwise (· < ·)
theorem cut_is {ms : List Int} {m : Int} {i : Nat} (hi : i ≤ ms.length) (h1 : ∀ k, k < i → ms.getD k 0 < m) (h2 : ∀ k, i ≤ k → k < ms.length → m ≤ ms.getD k 0) : cut ms m = i := by
  unfold cut
  rcases Nat.lt_or_ge i ms.length with h | h
  · rw [List.findIdx_eq h]
    refine ⟨?_, fun j hj => ?_⟩
    · have := h2 i (Nat.le_refl _) h
      simpa [List.getD, h] using this
    · have := h1 j hj
      have hj' : j < ms.length := by omega
      simp [List.getD, hj'] at this
      simpa using this
  · have : i = ms.length := by omega
    subst this
    rw [List.findIdx_eq_length]
    intro x hx
    obtain ⟨j, hj, rfl⟩ := List.getElem_of_mem hx
    have := h1 j hj
    simp [List.getD, hj] at this
    simpa using this
theorem up_lt {ms : List Int} (h : Up_ ms) {i j : Nat} (hij : i < j) (hj : j < ms.length) : ms.getD i 0 < ms.getD j 0 := by
  have := List.pairwise_iff_getElem.1 h i j (by omega) hj hij
  simpa [List.getD, hj, show i < ms.length by omega] using this
theorem mem_cut {ms : List Int} {m : Int} {i : Nat} (h : Up_ ms) (hi : i ≤ ms.length) (h1 : ∀ k, k < i → ms.getD k 0 < m) (h2 : ∀ k, i ≤ k → k < ms.length → m ≤ ms.getD k 0) : decide (m ∈ ms) = (decide (i < ms.length) && decide (ms.getD i 0 = m)) := by
  rcases Nat.lt_or_ge i ms.length with hl | hl
  · rw [decide_eq_true hl, Bool.true_and]
    congr 1
    apply propext
    constructor
    · intro hm
      obtain ⟨j, hj, he⟩ := List.getElem_of_mem hm
      have hg : ms.getD j 0 = m := by simp [List.getD, hj, he]
      rcases Nat.lt_trichotomy j i with h3 | h3 | h3
      · have := h1 j h3; omega
      · rw [← h3]; exact hg
      · have := up_lt h h3 hj
        have := h2 i (Nat.le_refl _) hl
        omega
    · intro he
      have : ms[i] = m := by simpa [List.getD, hl] using he
      rw [← this]
      exact List.getElem_mem hl
  · rw [decide_eq_false (by omega : ¬ i < ms.length), Bool.false_and, decide_eq_false]
    intro hm
    obtain ⟨j, hj, he⟩ := List.getElem_of_mem hm
    have := h1 j (by omega)
    simp [List.getD, hj, he] at this
set_option maxRecDepth 100000 in
set_option maxHeartbeats 4000000 in
theorem bins_any (w : World) (A : Option Addr) (n c : Nat) (ms : List Int) (m : Int) (h : Rd w All 1 A n (ms.map zv)) (hn : n ≤ 1000) (hu : Up_ ms) :
    Gives Tryz.prog 163 [.slice A n c, zv m] [] w (X := Unit) (fun _ => .tuple #[.int .i64 (cut ms m : Int), .bool (decide (m ∈ ms))]) (fun _ => True) (fun _ => []) := by
  refine gives_S Tryz.func163 rfl Tryz.ntmps163 Tryz.results163 (by simp) (St.enter w) (fun B hB => ?_)
  have hl : ms.length = n := by have := h.1; simpa using this
  have hne : 0 < n → A ≠ none := fun h0 => by obtain ⟨ad, rfl, _⟩ := h.2 h0; simp
  focus (refine qs ?_; (iterate 2 refine qp ?_; refine qp ?_; refine qn ?_; refine qp ?_); refine qp ?_; refine qp ?_; refine qz ?_; refine qq ?_; refine qb ?_)
  refine S_loop (X := Nat × Nat) (fun s => [(0, .slice A n c), (1, zv m), (6, .int .i64 (n : Int)), (7, .int .i64 (s.1 : Int)), (8, .int .i64 (s.2 : Int))]) (fun _ => _) (fun s => s.1 ≤ s.2 ∧ s.2 ≤ n ∧ (∀ k, k < s.1 → ms.getD k 0 < m) ∧ ∀ k, s.2 ≤ k → k < n → m ≤ ms.getD k 0) (fun s => s.2 - s.1) rfl (0, n) ⟨Nat.zero_le _, Nat.le_refl _, fun k hk => by omega, fun k h1 h2 => by dsimp only at h1; omega⟩ (Sub.cons rfl (Sub.cons rfl (Sub.cons rfl (Sub.cons rfl (Sub.cons rfl Sub.nil))))) (fun _ h => h) ?_
  rintro ⟨i, j⟩ ⟨hij, hjn, h1, h2⟩ J hJ
  dsimp only at hij hjn h1 h2 ⊢
  obtain ⟨x, hx⟩ : ∃ x, ms.getD ((i + j) / 2 ^ 1) 0 = x := ⟨_, rfl⟩
  have hld : (i + j) / 2 ^ 1 < n → (ms.map zv)[(i + j) / 2 ^ 1]? = some (zv x) := fun hlt => by rw [← hx]; exact zv_at (by omega)
  obtain ⟨y, hy⟩ : ∃ y, ms.getD i 0 = y := ⟨_, rfl⟩
  have hld2 : i < n → (ms.map zv)[i]? = some (zv y) := fun hlt => by rw [← hy]; exact zv_at (by omega)
  focus (refine qq ?_; refine qs ?_; (iterate 3 refine qp ?_); refine qz ?_; (refine S_if rfl rfl (fun hs => ?_) (fun hs => ?_)); refine qx ?_; refine qb ?_; refine qs ?_; refine qp ?_; refine qp ?_; refine qt (T_addN rfl rfl (by unfold fits; omega)) ?_; refine qt (T_convf rfl rfl rfl rfl (by unfold fits; omega)) ?_; refine qt (T_shrN rfl rfl (by decide)) ?_; refine qt (T_convf rfl rfl rfl rfl (by unfold fits; omega)) ?_; refine qp ?_; refine qn ?_; refine qp ?_; refine qp ?_; refine qt (T_ixN rfl rfl rfl rfl rfl rfl (by first | assumption | exact hne (by omega) | exact hne2 (by omega)) (by omega)) ?_; refine qt (T_ldr rfl rfl rfl (Srd.old h (fun k _ => noOwns k)) (by omega) (hld (by omega))) ?_; refine qp ?_; (refine qe (E_less rfl rfl) ?_; rintro _ _ ⟨rfl, rfl⟩); refine qz ?_; (refine S_if rfl rfl (fun hs => ?_) (fun hs => ?_)); refine qr ?_; refine qp ?_; refine qt (T_addN rfl rfl (by unfold fits; omega)) ?_; refine qp ?_; refine qz ?_; refine RS_blk ?_; rotate_left; refine qr ?_; refine qp ?_; refine qp ?_; refine qz ?_; refine RS_blk ?_; rotate_left; refine S_exit rfl rfl ?_; refine qs ?_; (iterate 5 refine qp ?_); (refine R_splitd rfl rfl (fun hs => ?_) (fun hs => ?_)); refine qp ?_; refine qp ?_; refine qt (T_ixN rfl rfl rfl rfl rfl rfl (by first | assumption | exact hne (by omega) | exact hne2 (by omega)) (by omega)) ?_; refine qt (T_ldr rfl rfl rfl (Srd.old h (fun k _ => noOwns k)) (by omega) (hld2 (by omega))) ?_; (iterate 3 refine qp ?_); (refine R_splitd rfl rfl (fun hs => ?_) (fun hs => ?_)); (iterate 9 refine qk ?_); (iterate 4 refine qp ?_); refine qz ?_; rotate_left; refine qp ?_; refine qp ?_; refine qt (T_ixN rfl rfl rfl rfl rfl rfl (by first | assumption | exact hne (by omega) | exact hne2 (by omega)) (by omega)) ?_; refine qt (T_ldr rfl rfl rfl (Srd.old h (fun k _ => noOwns k)) (by omega) (hld2 (by omega))) ?_; (refine qe (E_nan2 rfl) ?_; rintro _ _ ⟨rfl, rfl⟩); refine qp ?_; refine qk ?_; refine qk ?_; (iterate 5 refine qp ?_); refine qz ?_; rotate_left; (iterate 17 refine qk ?_); (iterate 3 refine qp ?_); refine qz ?_; rotate_left)
  · refine hJ ((i + j) / 2 ^ 1 + 1, j) _ _ ⟨by dsimp only; omega, by dsimp only; omega, fun k hk => ?_, h2⟩ (Sub.cons rfl (Sub.cons rfl (Sub.cons rfl (Sub.cons rfl (Sub.cons rfl Sub.nil))))) (fun _ h => h) (by dsimp only; omega)
    dsimp only at hk
    rcases Nat.lt_or_ge k ((i + j) / 2 ^ 1) with h3 | h3
    · have := up_lt hu h3 (by omega); omega
    · rw [show k = (i + j) / 2 ^ 1 by omega, hx]; assumption
  · refine hJ (i, (i + j) / 2 ^ 1) _ _ ⟨by dsimp only; omega, by dsimp only; omega, h1, fun k hk hkn => ?_⟩ (Sub.cons rfl (Sub.cons rfl (Sub.cons rfl (Sub.cons rfl (Sub.cons rfl Sub.nil))))) (fun _ h => h) (by dsimp only; omega)
    dsimp only at hk
    rcases Nat.eq_or_lt_of_le hk with h3 | h3
    · rw [← h3, hx]; omega
    · have := up_lt hu h3 (by omega); omega
  all_goals
    have hij' : i = j := by omega
    subst hij'
    refine hB _ _ _ _ _ rfl rfl fun w' hS => ⟨(), ?_, trivial, hS⟩
    rw [cut_is (by omega) h1 (fun k a b => h2 k a (by omega)), mem_cut hu (by omega) h1 (fun k a b => h2 k a (by omega)), hy, hl]
    have hcast : ((i : Int) < (n : Int)) ↔ i < n := by omega
    first | (rw [decide_eq_false (show ¬ i < n by omega), Bool.false_and]; rfl) | (simp_all; done) | (simp_all; rfl)
end Go.Proofs.YtdeffdldifepkaaGreat.C
namespace Go.Proofs.YtdeffdldifepkaaGreat.C
open Go.RowKit
open Asn (pt row rb)
set_option linter.unusedVariables false
set_option linter.unusedSimpArgs false
--@use N

theorem chk_up : ∀ (ms : List Int) (s : Bool × Int), (chk ms s).1 = true → s.1 = true ∧ (∀ m ∈ ms, 1 ≤ m ∧ m ≤ 5 ∧ s.2 < m) ∧ Up_ ms
  | [], s, h => ⟨h, fun m hm => (by cases hm), List.Pairwise.nil⟩
  | m :: ms, s, h => by
    obtain ⟨h1, h2, h3⟩ := chk_up ms _ h
    simp only [Bool.and_eq_true, memb, decide_eq_true_eq] at h1
    refine ⟨h1.1.1, fun x hx => ?_, List.Pairwise.cons (fun x hx => (h2 x hx).2.2) h3⟩
    rcases List.mem_cons.1 hx with rfl | hx
    · exact ⟨h1.1.2.1, h1.1.2.2, h1.2⟩
    · have := h2 x hx
      have := h1.2
      exact ⟨by omega, by omega, by simp only at *; omega⟩
theorem right_up {ms : List Int} (h : right ms = true) : ms ≠ [] ∧ (∀ m ∈ ms, 1 ≤ m ∧ m ≤ 5) ∧ Up_ ms := by
  obtain ⟨h1, h2, h3⟩ := chk_up ms _ h
  refine ⟨?_, fun m hm => ⟨(h2 m hm).1, (h2 m hm).2.1⟩, h3⟩
  rintro rfl
  simp at h1
section
variable {n : Nat} {w0 : World} {M : Nat → Prop} {T : Slots} {H Hr : List Asn} {dd : Option Tmp} {tt : TypeId} {pos : String} {af : Array Edge} {g : Option (Nat × Bool)} {x y z : Operand} {ts : Array TypeId}
theorem E_check {A : Option Addr} {m c : Nat} {ms : List Int} (hx : oget T x = some (cfv A m c)) (hs : Srd w0 M H 1 A m (ms.map zv)) (hm : m ≤ 100000) :
    Ef Tryz.prog n w0 M T H ⟨dd, .call ⟨.value (.func 95), #[x], ts⟩, tt, pos, af, g⟩ (fun u H' => u = .int .i64 (chkE ms) ∧ H' = H) := by
  refine (E_gv ⟨_, Tryz.func95, rfl, by kernel_rfl⟩ (vs := [cfv A m c]) (by simp [ogets, hx]) fun w hS => check_any w A m c ms (hs.rd w hS) hm).mono ?_
  rintro v H' ⟨_, rfl, _, rfl⟩ w hS
  exact ⟨_, _, rfl, ⟨rfl, rfl⟩, hS⟩
theorem E_bins {A : Option Addr} {m c : Nat} {ms : List Int} {a : Int} (hx : oget T x = some (.slice A m c)) (hy : oget T y = some (zv a)) (hs : Srd w0 M H 1 A m (ms.map zv)) (hm : m ≤ 1000) (hu : Up_ ms) :
    Ef Tryz.prog n w0 M T H ⟨dd, .call ⟨.value (.func 163), #[x, y], ts⟩, tt, pos, af, g⟩ (fun u H' => u = .tuple #[.int .i64 (cut ms a : Int), .bool (decide (a ∈ ms))] ∧ H' = H) := by
  refine (E_gv ⟨_, Tryz.func163, rfl, by kernel_rfl⟩ (vs := [.slice A m c, zv a]) (by simp [ogets, hx, hy]) fun w hS => bins_any w A m c ms a (hs.rd w hS) hm hu).mono ?_
  rintro v H' ⟨_, rfl, _, rfl⟩ w hS
  exact ⟨_, _, rfl, ⟨rfl, rfl⟩, hS⟩
end
set_option maxRecDepth 100000 in
set_option maxHeartbeats 4000000 in
theorem find_any (w : World) (A : Option Addr) (n c : Nat) (ms : List Int) (m : Int) (h : Rd w All 1 A n (ms.map zv)) (hn : n ≤ 1000) (hu : Up_ ms) :
    Gives Tryz.prog 110 [cfv A n c, zv m] [] w (X := Unit) (fun _ => .tuple #[.int .i64 (cut ms m : Int), .bool (decide (m ∈ ms))]) (fun _ => True) (fun _ => []) := by
  refine gives_S Tryz.func110 rfl Tryz.ntmps110 Tryz.results110 (by simp) (St.enter w) (fun B hB => ?_)
  focus (refine qs ?_; (refine qe (E_boxa rfl) ?_; rintro _ _ ⟨b, rfl, rfl⟩); refine qp ?_; refine qp ?_; refine qn ?_; refine qp ?_; refine qt (T_load rfl rfl rfl (by first | rfl | assumption)) ?_; refine qp ?_; (refine qe (E_bins rfl rfl (Srd.old h (fun k _ => noOwns k)) hn hu) ?_; rintro _ _ ⟨rfl, rfl⟩); (iterate 4 refine qp ?_); refine qz ?_)
  refine hB _ _ _ _ _ rfl rfl fun w' hS => ⟨(), ?_, trivial, hS.sublist (List.nil_sublist _)⟩
  rfl
section
variable {n : Nat} {w0 : World} {M : Nat → Prop} {T : Slots} {H Hr : List Asn} {dd : Option Tmp} {tt : TypeId} {pos : String} {af : Array Edge} {g : Option (Nat × Bool)} {x y z : Operand} {ts : Array TypeId}
theorem E_find {A : Option Addr} {m c : Nat} {ms : List Int} {a : Int} (hx : oget T x = some (cfv A m c)) (hy : oget T y = some (zv a)) (hs : Srd w0 M H 1 A m (ms.map zv)) (hm : m ≤ 1000) (hu : Up_ ms) :
    Ef Tryz.prog n w0 M T H ⟨dd, .call ⟨.value (.func 110), #[x, y], ts⟩, tt, pos, af, g⟩ (fun u H' => u = .tuple #[.int .i64 (cut ms a : Int), .bool (decide (a ∈ ms))] ∧ H' = H) := by
  refine (E_gv ⟨_, Tryz.func110, rfl, by kernel_rfl⟩ (vs := [cfv A m c, zv a]) (by simp [ogets, hx, hy]) fun w hS => find_any w A m c ms a (hs.rd w hS) hm hu).mono ?_
  rintro v H' ⟨_, rfl, _, rfl⟩ w hS
  exact ⟨_, _, rfl, ⟨rfl, rfl⟩, hS⟩
theorem E_checkT {A : Option Addr} {m c : Nat} {ms : List Int} (hx : oget T x = some (cfv A m c)) (hs : Srd w0 M H 1 A m (ms.map zv)) (hm : m ≤ 100000) (hr : right ms = true) :
    Ef Tryz.prog n w0 M T H ⟨dd, .call ⟨.value (.func 95), #[x], ts⟩, tt, pos, af, g⟩ (fun u H' => u = .int .i64 0 ∧ H' = H) := by
  have h := E_check (n := n) (w0 := w0) (M := M) (T := T) (H := H) (dd := dd) (ts := ts) (tt := tt) (pos := pos) (af := af) (g := g) hx hs hm
  rwa [chkE, if_pos hr] at h
theorem E_checkF {A : Option Addr} {m c : Nat} {ms : List Int} (hx : oget T x = some (cfv A m c)) (hs : Srd w0 M H 1 A m (ms.map zv)) (hm : m ≤ 100000) (hr : right ms = false) :
    Ef Tryz.prog n w0 M T H ⟨dd, .call ⟨.value (.func 95), #[x], ts⟩, tt, pos, af, g⟩ (fun u H' => u = .int .i64 240 ∧ H' = H) := by
  have h := E_check (n := n) (w0 := w0) (M := M) (T := T) (H := H) (dd := dd) (ts := ts) (tt := tt) (pos := pos) (af := af) (g := g) hx hs hm
  rwa [chkE, if_neg (by simp [hr])] at h
end
set_option maxRecDepth 100000 in
set_option maxHeartbeats 4000000 in
theorem has_any (w : World) (A : Option Addr) (n c : Nat) (ms : List Int) (m : Int) (h : Rd w All 1 A n (ms.map zv)) (hn : n ≤ 1000) :
    Gives Tryz.prog 42 [cfv A n c, zv m] [] w (X := Unit) (fun _ => .bool (right ms && decide (m ∈ ms))) (fun _ => True) (fun _ => []) := by
  refine gives_S Tryz.func42 rfl Tryz.ntmps42 Tryz.results42 (by simp) (St.enter w) (fun B hB => ?_)
  cases hr : right ms
  · focus (refine qs ?_; (refine qe (E_boxa rfl) ?_; rintro _ _ ⟨b, rfl, rfl⟩); refine qp ?_; refine qz ?_; refine qq ?_; refine qs ?_; refine qt (T_loada (ds := [.slice A n c]) rfl rfl rfl rfl (fun j v h => by simpa using h)) ?_; (refine qe (E_checkF rfl (Srd.old h (fun k _ => noOwns k)) (by omega) hr) ?_; rintro _ _ ⟨rfl, rfl⟩); refine qp ?_; refine qz ?_; refine qT ?_; refine qs ?_; refine qp ?_; refine qz ?_)
    all_goals (try (exfalso; simp_all; done))
    refine hB _ _ _ _ _ rfl rfl fun w' hS => ⟨(), ?_, trivial, hS.sublist (List.nil_sublist _)⟩
    rw [hr, Bool.false_and]; rfl
  · have hu := (right_up hr).2.2
    focus (refine qs ?_; (refine qe (E_boxa rfl) ?_; rintro _ _ ⟨b, rfl, rfl⟩); refine qp ?_; refine qz ?_; refine qq ?_; refine qs ?_; refine qt (T_loada (ds := [.slice A n c]) rfl rfl rfl rfl (fun j v h => by simpa using h)) ?_; (refine qe (E_checkT rfl (Srd.old h (fun k _ => noOwns k)) (by omega) hr) ?_; rintro _ _ ⟨rfl, rfl⟩); refine qp ?_; refine qz ?_; refine qF ?_; refine qx ?_; refine qs ?_; refine qt (T_loada (ds := [.slice A n c]) rfl rfl rfl rfl (fun j v h => by simpa using h)) ?_; refine qp ?_; (refine qe (E_find rfl rfl (Srd.old h (fun k _ => noOwns k)) hn hu) ?_; rintro _ _ ⟨rfl, rfl⟩); (iterate 5 refine qp ?_); refine qn ?_; refine qp ?_; refine qp ?_; refine qz ?_)
    all_goals (try (exfalso; simp_all; done))
    refine hB _ _ _ _ _ rfl rfl fun w' hS => ⟨(), ?_, trivial, hS.sublist (List.nil_sublist _)⟩
    rw [hr, Bool.true_and]
    rfl
end Go.Proofs.YtdeffdldifepkaaGreat.C
namespace Go.Proofs.YtdeffdldifepkaaGreat.C
open Go.RowKit
open Asn (pt row rb)
set_option linter.unusedVariables false
set_option linter.unusedSimpArgs false
--@use N

set_option maxRecDepth 100000 in
set_option maxHeartbeats 4000000 in
theorem clone_any (w : World) (A : Option Addr) (n c : Nat) (xs : List Value) (h : Rd w All 1 A n xs) (h1 : ∀ v ∈ xs, v.oneCell' = true) (hn : n ≤ 1000) :
    Gives Tryz.prog 92 [.slice A n c] [] w (X := Option Addr × Nat) (fun x => .slice x.1 n x.2) (fun _ => True) (fun x => [row 3 1 x.1 n x.2 xs]) := by
  refine gives_S Tryz.func92 rfl Tryz.ntmps92 Tryz.results92 (by simp) (St.enter w) (fun B hB => ?_)
  cases hA : A with
  | none =>
    subst hA
    have hn0 : n = 0 := by
      rcases Nat.eq_zero_or_pos n with h0 | h0
      · exact h0
      · obtain ⟨ad, e, _⟩ := h.2 h0
        cases e
    subst hn0
    obtain rfl : xs = [] := List.eq_nil_of_length_eq_zero (by simpa using h.1)
    focus (refine qs ?_; refine qp ?_; refine qz ?_; refine qq ?_; refine qs ?_; refine qp ?_; refine qt (T_eqnil rfl rfl rfl rfl) ?_; refine qz ?_; refine qT ?_; refine qs ?_; refine qp ?_; refine qz ?_)
    all_goals (try (exfalso; simp_all; done))
    refine hB _ _ _ _ _ rfl rfl fun w' hS => ⟨(none, 0), rfl, trivial, (hS.sublist (List.nil_sublist _)).nilrow _ _⟩
  | some ad =>
    subst hA
    focus (refine qs ?_; refine qp ?_; refine qz ?_; refine qq ?_; refine qs ?_; refine qp ?_; refine qt (T_eqnil rfl rfl rfl rfl) ?_; refine qz ?_; refine qF ?_; refine qx ?_; refine qs ?_; (refine qe (E_lit1 (m := 0) (vs := []) rfl rfl rfl rfl rfl rfl rfl (by simp) (by decide)) ?_; rintro _ _ ⟨bl, rfl, rfl⟩); refine qp ?_; (refine qe (E_apple rfl rfl rfl rfl rfl rfl rfl (by decide) .here (Srd.old h (fun k _ => noOwns k)) h1 (by show n * 8 ≤ _; omega) (by unfold maxLen; omega)) ?_; rintro _ _ ⟨A', c', rfl, rfl⟩); refine qp ?_; refine qz ?_)
    all_goals (try (exfalso; simp_all; done))
    refine hB _ _ _ _ _ rfl rfl fun w' hS => ⟨(A', c'), rfl, trivial, hS⟩
theorem one_drop {xs : List Value} (h1 : ∀ v ∈ xs, v.oneCell' = true) (i : Nat) : ∀ v ∈ xs.drop i, v.oneCell' = true := fun v hv => h1 v (List.mem_of_mem_drop hv)
theorem part_at (xs ys : List Value) (i : Nat) : ∀ j v, (xs.drop i)[j]? = some v → (xs ++ ys)[0 + i * 1 + j]? = some v := fun j v hj => by
  rw [List.getElem?_drop] at hj
  have hl := (List.getElem?_eq_some_iff.1 hj).1
  rw [Nat.zero_add, Nat.mul_one, List.getElem?_append_left hl]
  exact hj
set_option maxRecDepth 100000 in
set_option maxHeartbeats 4000000 in
theorem insert_any (w : World) (A : Option Addr) (m c vb i : Nat) (xs : List Value) (v : Value) (hi : i ≤ m) (hm : m ≤ 1000) (h1 : ∀ v ∈ xs, v.oneCell' = true) (hv1 : v.oneCell' = true)
    (hS : St w (owns [row 3 1 A m c xs, pt vb 3 [v]]) [row 3 1 A m c xs, pt vb 3 [v]] w) :
    Gives Tryz.prog 184 [.slice A m c, .int .i64 (i : Int), .slice (some ⟨vb, 0, none⟩) 1 1] [row 3 1 A m c xs, pt vb 3 [v]] w (X := Option Addr × Nat) (fun x => .slice x.1 (m + 1) x.2) (fun _ => True) (fun x => [row 3 1 x.1 (m + 1) x.2 (xs.take i ++ v :: xs.drop i)]) := by
  refine gives_S Tryz.func184 rfl Tryz.ntmps184 Tryz.results184 (by simp) hS (fun B hB => ?_)
  refine RS_row A m c fun hmc hcm hne hxl => ?_
  have hxl' : xs.length = m := by simpa using hxl
  rcases Nat.lt_or_ge i m with him | him
  · rcases Nat.lt_or_ge m c with hroom | hroom
    · refine RS_open A m c (hne (by omega)) fun gb ys hA hyl _ _ _ => ?_
      subst hA
      have hyl' : ys.length = c - m := by simpa using hyl
      refine RS_fact (p := vb ≠ gb) (fun w hS => fun e => ?_) fun hvg => ?_
      · subst e
        exact (List.pairwise_cons.1 hS.apart).1 (pt vb 3 [v]) (by simp) vb rfl rfl
      focus (refine qs ?_; refine qp ?_; refine qn ?_; refine qp ?_; refine qp ?_; refine qt (T_sllg (sz := 1) rfl rfl rfl rfl rfl rfl (by omega) (by omega) (by omega)) ?_; refine qn ?_; (iterate 3 refine qp ?_); refine qz ?_; refine qq ?_; refine qs ?_; refine qp ?_; refine qf ?_; refine qz ?_; refine qF ?_; refine qx ?_; refine qs ?_; (iterate 3 refine qp ?_); refine qz ?_; refine qq ?_; refine qs ?_; refine qp ?_; refine qp ?_; refine qf ?_; refine qz ?_; refine qF ?_; refine qx ?_; refine qq ?_; refine qs ?_; refine qp ?_; refine qp ?_; refine qt (T_addN rfl rfl (by unfold fits; omega)) ?_; refine qp ?_; refine qt (T_cap rfl rfl rfl) ?_; refine qf ?_; refine qz ?_; refine qF ?_; refine qx ?_; refine qs ?_; (iterate 3 refine qp ?_); refine qt (T_addN rfl rfl (by unfold fits; omega)) ?_; refine qt (T_slhN rfl rfl rfl rfl rfl (by omega)) ?_; refine qp ?_; refine qz ?_; refine qq ?_; refine qs ?_; (iterate 4 refine qp ?_); refine qt (T_addN rfl rfl (by unfold fits; omega)) ?_; refine qt (T_sllg (sz := 1) rfl rfl rfl rfl rfl rfl (by omega) (by omega) (by omega)) ?_; (refine qe (E_over (f := 198) (fn := Tryz.f198) (s := 31) (b := 4) Tryz.func198 (by kernel_rfl) (by kernel_rfl) (by kernel_rfl) (by kernel_rfl) rfl rfl rfl rfl rfl inferInstance inferInstance hvg (by rw [List.length_append]; omega)) ?_; rintro _ _ ⟨rfl, rfl⟩); refine qt (T_not rfl) ?_; refine qz ?_; refine qT ?_; refine qq ?_)
      refine S_draw ([]) sub_st (by kernel_rfl) rfl (by kernel_rfl) (by kernel_rfl : _ = 9) ?_
      refine dt 0 rfl (pev_ok rfl) ?_
      refine dt 1 rfl (pev_ok rfl) ?_
      refine dt 2 rfl (pev_ok rfl) ?_
      (refine dt 3 rfl (T_addN rfl rfl (by unfold fits; omega)) ?_)
      refine dt 4 rfl (T_sllg (sz := 1) rfl rfl rfl rfl rfl rfl (by omega) (by omega) (by omega)) ?_
      refine dt 5 rfl (pev_ok rfl) ?_
      refine dt 6 rfl (pev_ok rfl) ?_
      refine dt 7 rfl (T_sllg (sz := 1) rfl rfl rfl rfl rfl rfl (by omega) (by omega) (by omega)) ?_
      refine D_one 8 rfl (E_copyn (q := m - i) (cs := xs.drop i) rfl rfl rfl rfl rfl (Srd.pt (by show _ = (m - i) * 1; rw [List.length_drop]; omega) (part_at xs ys i)) (by simp only [Nat.min_def]; split <;> omega) (by rw [List.length_append, List.length_drop]; omega) (one_drop h1 i) rfl) ?_ rfl rfl (by kernel_rfl)
      rintro _ _ ⟨rfl, rfl⟩
      refine Nx_same sub_st ?_
      refine D_done ?_ (by kernel_rfl)
      skip
      focus (refine qs ?_; refine qp ?_; refine qp ?_; refine qt (T_sllg (sz := 1) rfl rfl rfl rfl rfl rfl (by omega) (by omega) (by omega)) ?_; refine qp ?_; (refine qe (E_copyn (q := 1) (cs := [v]) rfl rfl rfl rfl rfl (Srd.pt (g := vb) rfl (fun j u hj => by rw [Nat.zero_add]; exact hj)) (by simp only [Nat.min_def]; split <;> omega) (by simp; omega) (by simpa using hv1) rfl) ?_; rintro _ _ ⟨rfl, rfl⟩); refine qn ?_; refine qp ?_; refine qp ?_; refine qz ?_)
      refine hB _ _ _ _ _ rfl rfl fun w' hS => ⟨(some ⟨gb, 0, none⟩, c), rfl, trivial, ?_⟩
      refine (hS.close (m := m + 1) (c := c) (size := 1) (gb := gb) (e := 3) (xs := xs.take i ++ v :: xs.drop i) (by omega) hcm ?_ ?_).sublist (by simp)
      · simp only [List.length_append, List.length_take, List.length_drop, List.length_cons, List.length_nil]; omega
      simp only [Nat.zero_add, Nat.mul_one]
      exact ins_shift xs ys v i m hxl' him (by omega) _
    · skip
      focus (refine qs ?_; refine qp ?_; refine qn ?_; refine qp ?_; refine qp ?_; refine qt (T_slN rfl rfl rfl rfl rfl rfl (by omega) (by omega)) ?_; refine qn ?_; (iterate 3 refine qp ?_); refine qz ?_; refine qq ?_; refine qs ?_; refine qp ?_; refine qf ?_; refine qz ?_; refine qF ?_; refine qx ?_; refine qs ?_; (iterate 3 refine qp ?_); refine qz ?_; refine qq ?_; refine qs ?_; refine qp ?_; refine qp ?_; refine qf ?_; refine qz ?_; refine qF ?_; refine qx ?_; refine qq ?_; refine qs ?_; refine qp ?_; refine qp ?_; refine qt (T_addN rfl rfl (by unfold fits; omega)) ?_; refine qp ?_; refine qt (T_cap rfl rfl rfl) ?_; refine qd ?_; refine qz ?_; refine qT ?_; refine qs ?_; refine qp ?_; refine qp ?_; refine qt (T_slhN rfl rfl rfl rfl rfl (by omega)) ?_; refine qp ?_; refine qp ?_; refine qt (T_addN rfl rfl (by unfold fits; omega)) ?_; refine qp ?_; refine qt (T_subN rfl rfl (by omega) (by unfold fits; omega)) ?_; (refine qe (E_appz (sz := 1) (q := m + 1 - i) rfl rfl rfl rfl rfl rfl rfl rfl rfl (by decide) ((Srd.row (n := m) (c := c)).head (by omega)) (by omega) (by omega) (by show (i + (m + 1 - i)) * 8 ≤ _; omega) (by unfold maxLen; omega)) ?_; rintro _ _ ⟨g2, cc2, zs, ys, rfl, hzs, hyl, hmc2, hcm2, rfl⟩); refine qp ?_; refine qn ?_; refine qp ?_; refine qp ?_; refine qt (T_sllg (sz := 1) rfl rfl rfl rfl rfl rfl (by omega) (by omega) (by omega)) ?_; refine qp ?_; (refine qe (E_copyn (q := 1) (cs := [v]) rfl rfl rfl rfl rfl (Srd.pt (g := vb) rfl (fun j u hj => by rw [Nat.zero_add]; exact hj)) (by simp only [Nat.min_def]; split <;> omega) (by simp; omega) (by simpa using hv1) rfl) ?_; rintro _ _ ⟨rfl, rfl⟩); refine qz ?_; refine qq ?_)
      have hzs' : zs.length = m + 1 - i := by rw [hzs, Nat.mul_one]
      have hyl' : ys.length = cc2 - (m + 1) := by rw [hyl, Nat.mul_one]; omega
      refine S_draw ([]) sub_st (by kernel_rfl) rfl (by kernel_rfl) (by kernel_rfl : _ = 9) ?_
      refine dt 0 rfl (pev_ok rfl) ?_
      refine dt 1 rfl (pev_ok rfl) ?_
      refine dt 2 rfl (pev_ok rfl) ?_
      (refine dt 3 rfl (T_addN rfl rfl (by unfold fits; omega)) ?_)
      refine dt 4 rfl (T_sllg (sz := 1) rfl rfl rfl rfl rfl rfl (by omega) (by omega) (by omega)) ?_
      refine dt 5 rfl (pev_ok rfl) ?_
      refine dt 6 rfl (pev_ok rfl) ?_
      refine dt 7 rfl (T_slN rfl rfl rfl rfl rfl rfl (by omega) (by omega)) ?_
      refine D_one 8 rfl (E_copyn (q := m - i) (cs := xs.drop (i * 1)) rfl rfl rfl rfl rfl ((Srd.row (n := m) (c := c)).cutP (by omega) (by omega)) (by simp only [Nat.min_def]; split <;> omega) (by simp; omega) (by rw [Nat.mul_one]; exact one_drop h1 i) rfl) ?_ rfl rfl (by kernel_rfl)
      rintro _ _ ⟨rfl, rfl⟩
      refine Nx_same sub_st ?_
      refine D_done ?_ (by kernel_rfl)
      skip
      focus (refine qs ?_; refine qp ?_; refine qp ?_; refine qz ?_)
      refine hB _ _ _ _ _ rfl rfl fun w' hS => ⟨(some ⟨g2, 0, none⟩, cc2), by simp only [retv]; congr 1; omega, trivial, ?_⟩
      refine (hS.close (m := m + 1) (c := cc2) (size := 1) (gb := g2) (e := 3) (xs := xs.take i ++ v :: xs.drop i) (by omega) hcm2 ?_ ?_).sublist (by simp)
      · simp only [List.length_append, List.length_take, List.length_drop, List.length_cons, List.length_nil]; omega
      simp only [Nat.zero_add, Nat.mul_one]
      exact ins_grow xs zs ys v i m hxl' him _ _
  · obtain rfl : i = m := by omega
    focus (refine qs ?_; refine qp ?_; refine qn ?_; refine qp ?_; refine qp ?_; refine qt (T_slN rfl rfl rfl rfl rfl rfl (by omega) (by omega)) ?_; refine qn ?_; (iterate 3 refine qp ?_); refine qz ?_; refine qq ?_; refine qs ?_; refine qp ?_; refine qf ?_; refine qz ?_; refine qF ?_; refine qx ?_; refine qs ?_; (iterate 3 refine qp ?_); refine qz ?_; refine qq ?_; refine qs ?_; refine qp ?_; refine qp ?_; refine qd ?_; refine qz ?_; refine qT ?_; refine qs ?_; refine qp ?_; refine qp ?_; (refine qe (E_app1 rfl rfl rfl rfl rfl rfl rfl (Srd.pt (g := vb) (ds := [v]) rfl (fun j u hj => by rw [Nat.zero_add]; exact hj)) (by simpa using hv1) (by show (i + 1) * 8 ≤ _; omega) (by unfold maxLen; omega)) ?_; rintro _ _ ⟨A2, cc2, rfl, rfl⟩); refine qp ?_; refine qz ?_)
    refine hB _ _ _ _ _ rfl rfl fun w' hS => ⟨(A2, cc2), rfl, trivial, ?_⟩
    rw [List.take_of_length_le (by omega), List.drop_eq_nil_of_le (by omega)]
    exact hS.sublist (by simp)
end Go.Proofs.YtdeffdldifepkaaGreat.C
namespace Go.Proofs.YtdeffdldifepkaaGreat.C
open Go.RowKit
open Asn (pt row rb)
set_option linter.unusedVariables false
set_option linter.unusedSimpArgs false
--@use N

theorem take2_succ {a b : List Int} (hl : a.length = b.length) {j : Nat} (hj : j < a.length) : a.take (j + 1) = b.take (j + 1) ↔ a.take j = b.take j ∧ a.getD j 0 = b.getD j 0 := by
  rw [List.take_succ_eq_append_getElem hj, List.take_succ_eq_append_getElem (by omega)]
  have e1 : a.getD j 0 = a[j] := by simp [List.getD, hj]
  have e2 : b.getD j 0 = b[j]'(by omega) := by simp [List.getD, show j < b.length by omega]
  rw [e1, e2]
  constructor
  · intro h
    have := List.append_inj h (by simp [hl])
    exact ⟨this.1, by simpa using this.2⟩
  · rintro ⟨h1, h2⟩
    rw [h1, h2]
set_option maxRecDepth 100000 in
set_option maxHeartbeats 4000000 in
theorem eql_any (w : World) (A A2 : Option Addr) (n c n2 c2 : Nat) (ms ks : List Int) (h : Rd w All 1 A n (ms.map zv)) (h2 : Rd w All 1 A2 n2 (ks.map zv)) (hn : n ≤ 1000) (hn2 : n2 ≤ 1000) :
    Gives Tryz.prog 90 [.slice A n c, .slice A2 n2 c2] [] w (X := Unit) (fun _ => .bool (decide (ms = ks))) (fun _ => True) (fun _ => []) := by
  refine gives_S Tryz.func90 rfl Tryz.ntmps90 Tryz.results90 (by simp) (St.enter w) (fun B hB => ?_)
  have hl : ms.length = n := by have := h.1; simpa using this
  have hl2 : ks.length = n2 := by have := h2.1; simpa using this
  have hne : 0 < n → A ≠ none := fun h0 => by obtain ⟨ad, rfl, _⟩ := h.2 h0; simp
  have hne2 : 0 < n2 → A2 ≠ none := fun h0 => by obtain ⟨ad, rfl, _⟩ := h2.2 h0; simp
  subst hl hl2
  have hld : ∀ j, j < ms.length → (ms.map zv)[j]? = some (zv (ms.getD j 0)) := fun j hj => zv_at hj
  have hld2 : ∀ j, j < ks.length → (ks.map zv)[j]? = some (zv (ks.getD j 0)) := fun j hj => zv_at hj
  by_cases hlen : ms.length = ks.length
  · skip
    focus (refine qs ?_; refine qp ?_; refine qz ?_; refine qq ?_; refine qs ?_; (iterate 4 refine qp ?_); refine qf ?_; refine qz ?_; refine qF ?_; refine qx ?_; refine qq ?_; refine qs ?_; (iterate 3 refine qp ?_); refine qz ?_; refine qb ?_)
    refine S_loop (X := Nat) (fun j => [(0, .slice A ms.length c), (1, .slice A2 ks.length c2), (12, .int .i64 (ms.length : Int)), (13, .int .i64 (j : Int))]) (fun _ => _) (fun j => j ≤ ms.length ∧ ms.take j = ks.take j) (fun j => ms.length - j) rfl 0 ⟨Nat.zero_le _, rfl⟩ (Sub.cons rfl (Sub.cons rfl (Sub.cons rfl (Sub.cons rfl Sub.nil)))) (fun _ h => h) ?_
    rintro j ⟨hj, htk⟩ J hJ
    rcases Nat.lt_or_ge j ms.length with hjl | hjl
    · focus (refine qs ?_; refine qp ?_; refine qz ?_; refine qq ?_; (refine S_if rfl rfl (fun hs => ?_) (fun hs => ?_)); refine qx ?_; refine qq ?_; refine qb ?_; refine qs ?_; refine qp ?_; refine qp ?_; refine qz ?_; refine qq ?_; (refine S_draw _ (fun _ h => h) (by kernel_rfl) rfl (by kernel_rfl) (rfl : _ = 9) ?_; (refine dt 0 rfl (pev_ok rfl) ?_); (refine dt 1 rfl (pev_ok rfl) ?_); (refine dt 2 rfl (T_ixN rfl rfl rfl rfl rfl rfl (by first | assumption | exact hne (by omega) | exact hne2 (by omega)) (by omega)) ?_); (refine dt 3 rfl (T_ldr rfl rfl rfl (Srd.old h (fun k _ => noOwns k)) (by omega) (hld j (by omega))) ?_); (refine dt 4 rfl (pev_ok rfl) ?_); (refine dt 5 rfl (pev_ok rfl) ?_); (refine dt 6 rfl (T_ixN rfl rfl rfl rfl rfl rfl (by first | assumption | exact hne (by omega) | exact hne2 (by omega)) (by omega)) ?_); (refine dt 7 rfl (T_ldr rfl rfl rfl (Srd.old h2 (fun k _ => noOwns k)) (by omega) (hld2 j (by omega))) ?_); (refine dt 8 rfl (pev_ok rfl) ?_); refine D_done ?_ (by kernel_rfl)); (refine S_if rfl rfl (fun hs => ?_) (fun hs => ?_)); refine qs ?_; refine qp ?_; refine qz ?_; rotate_left; refine qx ?_; refine RS_blk ?_; refine qr ?_; refine qt (T_addN rfl rfl (by unfold fits; omega)) ?_; refine qp ?_; refine qz ?_; rotate_left; refine S_exit rfl rfl ?_; refine qs ?_; refine qp ?_; refine qz ?_; rotate_left)
      all_goals (try (exfalso; omega))
      · refine hB _ _ _ _ _ rfl rfl fun w' hS => ⟨(), ?_, trivial, hS.sublist (List.nil_sublist _)⟩
        rw [decide_eq_false]
        · rfl
        · rintro rfl; simp_all
      · refine hJ (j + 1) _ _ ⟨by omega, (take2_succ hlen hjl).2 ⟨htk, by simp_all⟩⟩ (Sub.cons rfl (Sub.cons rfl (Sub.cons rfl (Sub.cons rfl Sub.nil)))) (fun _ h => h) (by omega)
    · skip
      focus (refine qs ?_; refine qf ?_; refine qz ?_; refine qq ?_; refine qF ?_; refine S_exit rfl rfl ?_; refine qs ?_; refine qp ?_; refine qz ?_)
      all_goals (try (exfalso; omega))
      have hjn : j = ms.length := by omega
      subst hjn
      refine hB _ _ _ _ _ rfl rfl fun w' hS => ⟨(), ?_, trivial, hS.sublist (List.nil_sublist _)⟩
      rw [decide_eq_true]
      · rfl
      · rw [List.take_length, hlen, List.take_length] at htk
        exact htk
  · skip
    focus (refine qs ?_; refine qp ?_; refine qz ?_; refine qq ?_; refine qs ?_; (iterate 4 refine qp ?_); refine qd ?_; refine qz ?_; refine qT ?_; refine qs ?_; refine qp ?_; refine qz ?_)
    all_goals (try (exfalso; omega))
    refine hB _ _ _ _ _ rfl rfl fun w' hS => ⟨(), ?_, trivial, hS.sublist (List.nil_sublist _)⟩
    rw [decide_eq_false]
    · rfl
    · rintro rfl; exact hlen rfl
set_option maxRecDepth 100000 in
set_option maxHeartbeats 4000000 in
theorem index_any (w : World) (A : Option Addr) (n c : Nat) (ms : List Int) (m : Int) (h : Rd w All 1 A n (ms.map zv)) (hn : n ≤ 1000) :
    Gives Tryz.prog 177 [.slice A n c, zv m] [] w (X := Int) (fun x => .int .i64 x) (fun x => 0 ≤ x ↔ m ∈ ms) (fun _ => []) := by
  refine gives_S Tryz.func177 rfl Tryz.ntmps177 Tryz.results177 (by simp) (St.enter w) (fun B hB => ?_)
  have hl : ms.length = n := by have := h.1; simpa using this
  have hne : 0 < n → A ≠ none := fun h0 => by obtain ⟨ad, rfl, _⟩ := h.2 h0; simp
  subst hl
  have hld : ∀ j, j < ms.length → (ms.map zv)[j]? = some (zv (ms.getD j 0)) := fun j hj => zv_at hj
  focus (refine qs ?_; refine qp ?_; refine qz ?_; refine qq ?_; refine qs ?_; (iterate 3 refine qp ?_); refine qz ?_; refine qb ?_)
  refine S_loop (X := Nat) (fun j => [(0, .slice A ms.length c), (1, zv m), (7, .int .i64 (ms.length : Int)), (8, .int .i64 (j : Int))]) (fun _ => _) (fun j => j ≤ ms.length ∧ ¬ m ∈ ms.take j) (fun j => ms.length - j) rfl 0 ⟨Nat.zero_le _, by simp⟩ (Sub.cons rfl (Sub.cons rfl (Sub.cons rfl (Sub.cons rfl Sub.nil)))) (fun _ h => h) ?_
  rintro j ⟨hj, htk⟩ J hJ
  have hgm : ∀ hj : j < ms.length, ms.getD j 0 = ms[j] := fun hj => by simp [List.getD, hj]
  focus (refine qs ?_; refine qp ?_; refine qz ?_; refine qq ?_; (refine S_if rfl rfl (fun hs => ?_) (fun hs => ?_)); refine qx ?_; refine qq ?_; refine qb ?_; refine qs ?_; refine qp ?_; refine qp ?_; refine qn ?_; (iterate 3 refine qp ?_); refine qt (T_ixN rfl rfl rfl rfl rfl rfl (by first | assumption | exact hne (by omega) | exact hne2 (by omega)) (by omega)) ?_; refine qt (T_ldr rfl rfl rfl (Srd.old h (fun k _ => noOwns k)) (by omega) (hld j (by omega))) ?_; refine qp ?_; refine qz ?_; (refine S_if rfl rfl (fun hs => ?_) (fun hs => ?_)); refine qs ?_; refine qp ?_; refine qp ?_; refine qz ?_; rotate_left; refine qx ?_; refine RS_blk ?_; refine qr ?_; refine qt (T_addN rfl rfl (by unfold fits; omega)) ?_; refine qp ?_; refine qz ?_; rotate_left; refine S_exit rfl rfl ?_; refine qs ?_; refine qp ?_; refine qz ?_; rotate_left)
  all_goals (try (exfalso; omega))
  · rename_i hlt
    refine hB _ _ _ _ _ rfl rfl fun w' hS => ⟨(j : Int), rfl, ⟨fun _ => ?_, fun _ => by omega⟩, hS.sublist (List.nil_sublist _)⟩
    have hlt' : j < ms.length := by omega
    have heq' : m = ms.getD j 0 := hs
    rw [heq', hgm hlt']
    exact List.getElem_mem _
  · rename_i hlt
    have hlt' : j < ms.length := by omega
    refine hJ (j + 1) _ _ ⟨by omega, ?_⟩ (Sub.cons rfl (Sub.cons rfl (Sub.cons rfl (Sub.cons rfl Sub.nil)))) (fun _ h => h) (by omega)
    rw [List.take_succ_eq_append_getElem hlt', List.mem_append, not_or]
    refine ⟨htk, ?_⟩
    rw [← hgm hlt']
    simpa [hgm hlt'] using hs
  · have hjn : j = ms.length := by omega
    subst hjn
    rw [List.take_length] at htk
    refine hB _ _ _ _ _ rfl rfl fun w' hS => ⟨-1, rfl, ⟨fun h => absurd h (by omega), fun h => absurd h htk⟩, hS.sublist (List.nil_sublist _)⟩
set_option maxRecDepth 100000 in
set_option maxHeartbeats 4000000 in
theorem contains_any (w : World) (A : Option Addr) (n c : Nat) (ms : List Int) (m : Int) (h : Rd w All 1 A n (ms.map zv)) (hn : n ≤ 1000) :
    Gives Tryz.prog 158 [.slice A n c, zv m] [] w (X := Unit) (fun _ => .bool (decide (m ∈ ms))) (fun _ => True) (fun _ => []) := by
  refine gives_S Tryz.func158 rfl Tryz.ntmps158 Tryz.results158 (by simp) (St.enter w) (fun B hB => ?_)
  focus (refine qs ?_; refine qp ?_; refine qn ?_; refine qp ?_; refine qp ?_; (refine qe (E_gv0 (f := 177) ⟨_, Tryz.func177, rfl, by kernel_rfl⟩ rfl (fun w hS => index_any w A _ c ms m ((Srd.old h (fun k _ => noOwns k)).rd w hS) hn) (fun _ => rfl)) ?_; rintro _ _ ⟨x, rfl, hx, rfl⟩); refine qp ?_; refine qp ?_; refine qz ?_)
  refine hB _ _ _ _ _ rfl rfl fun w' hS => ⟨(), ?_, trivial, hS.sublist (List.nil_sublist _)⟩
  rw [decide_eq_decide.2 hx.symm]
  rfl
theorem ogets_cap (T : Slots) (x : Operand) (v : Value) (hx : oget T x = some v) : ∀ cap : List Value, ogets T (#[x] ++ (cap.map Operand.const).toArray).toList = some (v :: cap) := fun cap => by
  have h : ogets T (cap.map Operand.const) = some cap := by
    induction cap with
    | nil => rfl
    | cons u us ih => simp [ogets, ih, oget]
  have e : (#[x] ++ (cap.map Operand.const).toArray).toList = x :: cap.map Operand.const := by simp
  rw [e]
  simp [ogets, hx, h]
/-- how many something is so of: is, a closure, says of each -/
theorem cnt_next (p : Int → Bool) (ms : List Int) (j : Nat) (hj : j < ms.length) : (ms.take (j + 1)).countP p = (ms.take j).countP p + (if p (ms.getD j 0) then 1 else 0) := by
  rw [List.take_succ_eq_append_getElem hj, List.countP_append]
  have e1 : ms.getD j 0 = ms[j] := by simp [List.getD, hj]
  rw [e1, List.countP_singleton]
set_option maxRecDepth 100000 in
set_option maxHeartbeats 4000000 in
theorem counted_any (w : World) (A : Option Addr) (n c f : Nat) (cap : List Value) (ms : List Int) (p : Int → Bool) (h : Rd w All 1 A n (ms.map zv)) (hn : n ≤ 1000) (hf : Fn_ Tryz.prog f)
    (hp : ∀ w', Kp All w w' → ∀ m, Gives Tryz.prog f (zv m :: cap) [] w' (X := Unit) (fun _ => .bool (p m)) (fun _ => True) (fun _ => [])) :
    Gives Tryz.prog 128 [cfv A n c, .func (.func f) #[] cap.toArray] [] w (X := Unit) (fun _ => .int .i64 (ms.countP p : Nat)) (fun _ => True) (fun _ => []) := by
  refine gives_S Tryz.func128 rfl Tryz.ntmps128 Tryz.results128 (by simp) (St.enter w) (fun B hB => ?_)
  have hl : ms.length = n := by have := h.1; simpa using this
  have hne : 0 < n → A ≠ none := fun h0 => by obtain ⟨ad, rfl, _⟩ := h.2 h0; simp
  subst hl
  have hld : ∀ j, j < ms.length → (ms.map zv)[j]? = some (zv (ms.getD j 0)) := fun j hj => zv_at hj
  have hle : ∀ j, (ms.take j).countP p ≤ j := fun j => Nat.le_trans List.countP_le_length (by simp; omega)
  focus (refine qs ?_; (refine qe (E_boxa rfl) ?_; rintro _ _ ⟨b, rfl, rfl⟩); refine qp ?_; refine qn ?_; refine qp ?_; refine qz ?_; refine qq ?_; refine qs ?_; refine qp ?_; refine qt (T_load rfl rfl rfl (by first | rfl | assumption)) ?_; refine qp ?_; refine qp ?_; refine qz ?_; refine qb ?_)
  refine S_loop (X := Nat) (fun j => [(1, .func (.func f) #[] cap.toArray), (5, .int .i64 ((ms.take j).countP p : Nat)), (9, .slice A ms.length c), (10, .int .i64 (ms.length : Int)), (11, .int .i64 (j : Int))]) (fun _ => _) (fun j => j ≤ ms.length) (fun j => ms.length - j) rfl 0 (Nat.zero_le _) (Sub.cons rfl (Sub.cons rfl (Sub.cons rfl (Sub.cons rfl (Sub.cons rfl Sub.nil))))) (fun _ h => h) ?_
  rintro j hj J hJ
  have hnx := cnt_next p ms j
  have hld' := hld j
  have hlj := hle j
  obtain ⟨x, hx⟩ : ∃ x, ms.getD j 0 = x := ⟨_, rfl⟩
  obtain ⟨q, hq⟩ : ∃ q, (ms.take j).countP p = q := ⟨_, rfl⟩
  rw [hx] at hnx hld'
  rw [hq] at hnx hlj ⊢
  obtain ⟨bx, hbx⟩ : ∃ bx, p x = bx := ⟨_, rfl⟩
  rw [hbx] at hnx
  focus (refine qs ?_; refine qp ?_; refine qz ?_; refine qq ?_; (refine S_if rfl rfl (fun hs => ?_) (fun hs => ?_)); refine qx ?_; refine qq ?_; refine qb ?_; refine qs ?_; refine qt (T_ixN rfl rfl rfl rfl rfl rfl (by first | assumption | exact hne (by omega) | exact hne2 (by omega)) (by omega)) ?_; refine qt (T_ldr rfl rfl rfl (Srd.old h (fun k _ => noOwns k)) (by omega) (hld' (by omega))) ?_; refine qp ?_; refine qn ?_; refine qp ?_; refine qp ?_; (refine qe (E_cloA (cap := cap) rfl (E_gv0 hf (ogets_cap _ _ (zv x) rfl cap) (fun w' hS => hp w' hS.kpO x) (fun _ => rfl))) ?_; rintro _ _ ⟨_, rfl, _, rfl⟩); refine qz ?_; (refine S_cond rfl rfl (fun hs => ?_) (fun hs => ?_)); refine qr ?_; refine qp ?_; refine qt (T_addN rfl rfl (by unfold fits; omega)) ?_; refine qp ?_; refine qz ?_; refine RS_blk ?_; refine qr ?_; refine qt (T_addN rfl rfl (by unfold fits; omega)) ?_; refine qp ?_; refine qz ?_; rotate_left; refine qx ?_; refine RS_blk ?_; refine qr ?_; refine qt (T_addN rfl rfl (by unfold fits; omega)) ?_; refine qp ?_; refine qz ?_; rotate_left; refine S_exit rfl rfl ?_; refine qs ?_; refine qp ?_; refine qp ?_; refine qz ?_; rotate_left)
  · have e : (ms.take (j + 1)).countP p = q + 1 := by rw [hnx (by omega), ← hbx, hs]; rfl
    refine hJ (j + 1) _ _ (by omega) ?_ (fun _ h => h) (by omega)
    rw [e]
    exact (Sub.cons rfl (Sub.cons rfl (Sub.cons rfl (Sub.cons rfl (Sub.cons rfl Sub.nil)))))
  · have e : (ms.take (j + 1)).countP p = q := by rw [hnx (by omega), ← hbx, hs]; rfl
    refine hJ (j + 1) _ _ (by omega) ?_ (fun _ h => h) (by omega)
    rw [e]
    exact (Sub.cons rfl (Sub.cons rfl (Sub.cons rfl (Sub.cons rfl (Sub.cons rfl Sub.nil)))))
  · have hjn : j = ms.length := by omega
    subst hjn
    rw [List.take_length] at hq
    refine hB _ _ _ _ _ rfl rfl fun w' hS => ⟨(), ?_, trivial, hS.sublist (List.nil_sublist _)⟩
    rw [hq]
    rfl
end Go.Proofs.YtdeffdldifepkaaGreat.C
namespace Go.Proofs.YtdeffdldifepkaaGreat.C
open Go.RowKit
open Asn (pt row rb)
set_option linter.unusedVariables false
set_option linter.unusedSimpArgs false
--@use N

def majB (ms set : List Int) : Bool := right ms && decide (ms.length < 2 * ms.countP (fun m => decide (m ∈ set)))
set_option maxRecDepth 100000 in
set_option maxHeartbeats 4000000 in
theorem maj1_any (w : World) (b : Nat) (A : Option Addr) (n c : Nat) (set : List Int) (m : Int) (hb : Rd w All 1 (some ⟨b, 0, none⟩) 1 [.slice A n c]) (h : Rd w All 1 A n (set.map zv)) (hn : n ≤ 1000) :
    Gives Tryz.prog 164 [zv m, .pointer (some ⟨b, 0, none⟩)] [] w (X := Unit) (fun _ => .bool (decide (m ∈ set))) (fun _ => True) (fun _ => []) := by
  refine gives_S Tryz.func164 rfl Tryz.ntmps164 Tryz.results164 (by simp) (St.enter w) (fun B hB => ?_)
  focus (refine qs ?_; refine qp ?_; refine qn ?_; refine qt (T_loadg rfl rfl rfl hb (fun k _ => noOwns k) rfl) ?_; refine qp ?_; (refine qe (E_gv0 (f := 158) ⟨_, Tryz.func158, rfl, by kernel_rfl⟩ rfl (fun w hS => contains_any w A _ c set m ((Srd.old h (fun k _ => noOwns k)).rd w hS) hn) (fun _ => rfl)) ?_; rintro _ _ ⟨_, rfl, _, rfl⟩); refine qp ?_; refine qz ?_)
  refine hB _ _ _ _ _ rfl rfl fun w' hS => ⟨(), rfl, trivial, hS.sublist (List.nil_sublist _)⟩
set_option maxRecDepth 100000 in
set_option maxHeartbeats 4000000 in
theorem maj_any (w : World) (A A2 : Option Addr) (n c n2 c2 : Nat) (ms set : List Int) (h : Rd w All 1 A n (ms.map zv)) (h2 : Rd w All 1 A2 n2 (set.map zv)) (hn : n ≤ 1000) (hn2 : n2 ≤ 1000) :
    Gives Tryz.prog 111 [cfv A n c, .slice A2 n2 c2] [] w (X := Unit) (fun _ => .bool (majB ms set)) (fun _ => True) (fun _ => []) := by
  refine gives_S Tryz.func111 rfl Tryz.ntmps111 Tryz.results111 (by simp) (St.enter w) (fun B hB => ?_)
  have hl : ms.length = n := by have := h.1; simpa using this
  subst hl
  have hcl : ms.countP (fun m => decide (m ∈ set)) ≤ ms.length := List.countP_le_length
  focus (refine qs ?_; (refine qe (E_boxa rfl) ?_; rintro _ _ ⟨b, rfl, rfl⟩); (refine qe (E_box1 rfl rfl) ?_; rintro _ _ ⟨b, rfl, rfl⟩); refine qp ?_; refine qn ?_; refine qt (T_func rfl rfl) ?_; refine qp ?_; refine qz ?_; refine qq ?_)
  rename_i b1
  cases hr : right ms
  · skip
    refine S_draw (_) (fun _ h => h) (by kernel_rfl) rfl (by kernel_rfl) (by kernel_rfl : _ = 14) ?_
    refine dt 0 rfl (T_loada (ds := [.slice A ms.length c]) rfl rfl rfl rfl (fun j v h => by simpa using h)) ?_
    refine D_one 1 rfl (E_checkF rfl (Srd.old h (fun k _ => noOwns k)) (by omega) hr) ?_ rfl rfl (by kernel_rfl)
    rintro _ _ ⟨rfl, rfl⟩
    refine Nx_same sub_st ?_
    refine dt 2 rfl (pev_ok rfl) ?_
    refine dt 3 rfl (pev_ok rfl) ?_
    refine D_skip 4 rfl ?_ rfl rfl (by kernel_rfl) (by kernel_rfl)
    refine D_skip 5 rfl ?_ rfl rfl (by kernel_rfl) (by kernel_rfl)
    refine D_skip 6 rfl ?_ rfl rfl (by kernel_rfl) (by kernel_rfl)
    refine D_skip 7 rfl ?_ rfl rfl (by kernel_rfl) (by kernel_rfl)
    refine D_skip 8 rfl ?_ rfl rfl (by kernel_rfl) (by kernel_rfl)
    refine D_skip 9 rfl ?_ rfl rfl (by kernel_rfl) (by kernel_rfl)
    refine D_skip 10 rfl ?_ rfl rfl (by kernel_rfl) (by kernel_rfl)
    refine D_skip 11 rfl ?_ rfl rfl (by kernel_rfl) (by kernel_rfl)
    refine dt 12 rfl (pev_ok rfl) ?_
    refine dt 13 rfl (pev_ok rfl) ?_
    refine D_done ?_ (by kernel_rfl)
    skip
    skip
    refine hB _ _ _ _ _ rfl rfl fun w' hS => ⟨(), ?_, trivial, hS.sublist (List.nil_sublist _)⟩
    rw [majB, hr]
    rfl
  · skip
    refine S_draw (_) (fun _ h => h) (by kernel_rfl) rfl (by kernel_rfl) (by kernel_rfl : _ = 14) ?_
    refine dt 0 rfl (T_loada (ds := [.slice A ms.length c]) rfl rfl rfl rfl (fun j v h => by simpa using h)) ?_
    refine D_one 1 rfl (E_checkT rfl (Srd.old h (fun k _ => noOwns k)) (by omega) hr) ?_ rfl rfl (by kernel_rfl)
    rintro _ _ ⟨rfl, rfl⟩
    refine Nx_same sub_st ?_
    refine dt 2 rfl (pev_ok rfl) ?_
    refine dt 3 rfl (pev_ok rfl) ?_
    refine dt 4 rfl (T_loada (ds := [.slice A ms.length c]) rfl rfl rfl rfl (fun j v h => by simpa using h)) ?_
    refine dt 5 rfl (pev_ok rfl) ?_
    refine dt 8 rfl (pev_ok rfl) ?_
    refine dt 9 rfl (T_load rfl rfl rfl (by first | rfl | assumption)) ?_
    refine dt 10 rfl (pev_ok rfl) ?_
    refine D_one 6 rfl (E_gv0 (f := 128) ⟨_, Tryz.func128, rfl, by kernel_rfl⟩ rfl (fun w hS => counted_any w A _ c 164 [.pointer (some ⟨b, 0, none⟩)] ms (fun m => decide (m ∈ set)) ((Srd.old h (fun k _ => noOwns k)).rd w hS) hn ⟨_, Tryz.func164, rfl, by kernel_rfl⟩ (fun w' hk m => maj1_any w' b A2 n2 c2 set m (((Srd.pt (g := b) (n := 1) (size := 1) (ds := [.slice A2 n2 c2]) rfl (fun j v hj => by rw [Nat.zero_add]; exact hj)).rd w hS).keep hk) (((Srd.old h2 (fun k _ => noOwns k)).rd w hS).keep hk) hn2)) (fun _ => rfl)) ?_ rfl rfl (by kernel_rfl)
    rintro _ _ ⟨_, rfl, _, rfl⟩
    refine Nx_same sub_st ?_
    (refine dt 7 rfl (T_mulN rfl rfl (by unfold fits; omega)) ?_)
    refine dt 11 rfl (pev_ok rfl) ?_
    refine dt 12 rfl (pev_ok rfl) ?_
    refine dt 13 rfl (pev_ok rfl) ?_
    refine D_done ?_ (by kernel_rfl)
    skip
    skip
    refine hB _ _ _ _ _ rfl rfl fun w' hS => ⟨(), ?_, trivial, hS.sublist (List.nil_sublist _)⟩
    rw [majB, hr, Bool.true_and]
    show Value.bool _ = _
    congr 1
    exact decide_eq_decide.2 (by omega)
set_option maxRecDepth 100000 in
set_option maxHeartbeats 4000000 in
theorem cosame_any (w : World) (A A2 : Option Addr) (n c n2 c2 : Nat) (ms ks : List Int) (h : Rd w All 1 A n (ms.map zv)) (h2 : Rd w All 1 A2 n2 (ks.map zv)) (hn : n ≤ 1000) (hn2 : n2 ≤ 1000) :
    Gives Tryz.prog 89 [cfv A n c, cfv A2 n2 c2] [] w (X := Unit) (fun _ => .bool (decide (ms = ks))) (fun _ => True) (fun _ => []) := by
  refine gives_S Tryz.func89 rfl Tryz.ntmps89 Tryz.results89 (by simp) (St.enter w) (fun B hB => ?_)
  focus (refine qs ?_; (iterate 2 (refine qe (E_boxa rfl) ?_; rintro _ _ ⟨b, rfl, rfl⟩)); refine qp ?_; refine qn ?_; (iterate 2 refine qp ?_; refine qt (T_load rfl rfl rfl (by first | rfl | assumption)) ?_); (refine qe (E_gv0 (f := 90) ⟨_, Tryz.func90, rfl, by kernel_rfl⟩ rfl (fun w hS => eql_any w A A2 _ c _ c2 ms ks ((Srd.old h (fun k _ => noOwns k)).rd w hS) ((Srd.old h2 (fun k _ => noOwns k)).rd w hS) hn hn2) (fun _ => rfl)) ?_; rintro _ _ ⟨_, rfl, _, rfl⟩); refine qp ?_; refine qz ?_)
  refine hB _ _ _ _ _ rfl rfl fun w' hS => ⟨(), rfl, trivial, hS.sublist (List.nil_sublist _)⟩
end Go.Proofs.YtdeffdldifepkaaGreat.C
namespace Go.Proofs.YtdeffdldifepkaaGreat.C
open Go.RowKit
open Asn (pt row rb)
set_option linter.unusedVariables false
set_option linter.unusedSimpArgs false
--@use N

theorem up_len : ∀ (ms : List Int) (a b : Int), (∀ m ∈ ms, a < m ∧ m ≤ b) → Up_ ms → (ms.length : Int) ≤ max 0 (b - a)
  | [], a, b, _, _ => by simp; omega
  | m :: ms, a, b, h, hu => by
    obtain ⟨h1, h2⟩ := List.pairwise_cons.1 hu
    have ih := up_len ms m b (fun x hx => ⟨h1 x hx, (h x (by simp [hx])).2⟩) h2
    have := h m (by simp)
    simp only [List.length_cons]
    omega
theorem right_len {ms : List Int} (h : right ms = true) : 0 < ms.length ∧ ms.length ≤ 5 := by
  obtain ⟨h0, h1, h2⟩ := right_up h
  have := up_len ms 0 5 (fun m hm => by have := h1 m hm; omega) h2
  refine ⟨List.length_pos_iff.2 h0, by omega⟩
end Go.Proofs.YtdeffdldifepkaaGreat.C
namespace Go.Proofs.YtdeffdldifepkaaGreat.C
open Go.RowKit
open Asn (pt row rb)
set_option linter.unusedVariables false
set_option linter.unusedSimpArgs false
--@use N

theorem cf_alloc : ti33.zero = .agg [Value.slice none 0 0].toArray := by kernel_rfl
theorem cf_built0 : Tryz.prog.built 33 [] = some [Value.slice none 0 0].toArray := by kernel_rfl
theorem cf_built1 (A : Option Addr) (n c : Nat) : Tryz.prog.built 33 [(0, .slice A n c)] = some [Value.slice A n c].toArray := by kernel_rfl
theorem sl_one (A : Option Addr) (n c : Nat) : ∀ u ∈ [Value.slice A n c], u.oneCell' = true := by simp [Value.oneCell']
theorem zv_ones (ms : List Int) : ∀ v ∈ ms.map zv, v.oneCell' = true := by simp [zv, Value.oneCell']
theorem cut_le (ms : List Int) (m : Int) : cut ms m ≤ ms.length := List.findIdx_le_length
end Go.Proofs.YtdeffdldifepkaaGreat.C
namespace Go.Proofs.YtdeffdldifepkaaGreat.C
open Go.RowKit
open Asn (pt row rb)
set_option linter.unusedVariables false
set_option linter.unusedSimpArgs false
--@use N

def b0 (l : List UInt8) : Nat := (l.getD 0 0).toNat
def decM (l : List UInt8) : List Int := (l.drop 1).map fun b => (b.toNat : Int)
def decE (l : List UInt8) : Int := if l.length ≤ b0 l then 7 else if l.length - 1 = b0 l ∧ right (decM l) = true then 0 else 240
def decL (l : List UInt8) : List Int := if decE l = 0 then decM l else []
theorem decM_next (l : List UInt8) (j : Nat) (hj : j < l.length - 1) : (decM l).take (j + 1) = (decM l).take j ++ [(((l.drop 1).getD j 0).toNat : Int)] := by
  have h : j < (decM l).length := by simp [decM]; omega
  rw [List.take_succ_eq_append_getElem h]
  congr 1
  simp [decM, List.getD, show j + 1 < l.length by omega]
theorem decM_len (l : List UInt8) : (decM l).length = l.length - 1 := by simp [decM]
section
variable {n : Nat} {w0 : World} {M : Nat → Prop} {T : Slots} {H Hr : List Asn} {dd : Option Tmp} {tt : TypeId} {pos : String} {af : Array Edge} {g : Option (Nat × Bool)} {x y z : Operand} {ts : Array TypeId}
end
set_option maxRecDepth 100000 in
set_option maxHeartbeats 4000000 in
theorem dec_any (w : World) (A : Option Addr) (n c : Nat) (l : List UInt8) (h : Bs w All A n c l) (hn : n ≤ 100000) :
    Gives Tryz.prog 120 [.slice A n c] [] w (X := Option Addr × Nat) (fun x => .tuple #[cfv x.1 (decL l).length x.2, .int .i64 (decE l)]) (fun _ => True) (fun x => [row 3 1 x.1 (decL l).length x.2 ((decL l).map zv)]) := by
  refine gives_C Tryz.func120 rfl Tryz.ntmps120 Tryz.results120 (by simp) (St.enter w) (fun B hB => ?_)
  have hl : n = l.length := h.len
  have hcap := h.cap
  have hne : 0 < n → A ≠ none := fun h0 => by obtain ⟨ad, rfl, _⟩ := h.rd.2 h0; simp
  obtain ⟨q, hq⟩ : ∃ q, b0 l = q := ⟨_, rfl⟩
  have hq' : (l.getD 0 0).toNat = q := hq
  have hq8 : (l.getD 0 0).toNat < 256 := UInt8.toNat_lt _
  have hdl := decM_len l
  by_cases hsh : l.length ≤ b0 l
  · have e1 : decE l = 7 := by rw [decE, if_pos hsh]
    have e2 : decL l = [] := by rw [decL, e1]; rfl
    rw [e1, e2] at hB
    rw [hq] at hsh
    focus (refine qs ?_; (refine qe (E_alloca rfl cf_alloc) ?_; rintro _ _ ⟨bc, rfl, rfl⟩); refine qp ?_; refine qz ?_; refine qq ?_; refine qs ?_; (iterate 4 refine qp ?_); (refine R_splitd rfl rfl (fun hs => ?_) (fun hs => ?_)); (iterate 7 refine qk ?_); refine qp ?_; refine qz ?_; refine qT ?_; refine qs ?_; refine qt (T_build0 cf_built0) ?_; (refine qw (E_storew (ds := [.slice none 0 0]) (cs := [.slice none 0 0]) rfl rfl rfl rfl (sl_one _ _ _) rfl) ?_; rintro _ _ rfl); refine qp ?_; refine qz ?_; rotate_left; (iterate 3 refine qp ?_); refine qt (T_ixN rfl rfl rfl rfl rfl rfl (by first | assumption | exact hne (by omega) | exact hne2 (by omega)) (by omega)) ?_; refine qt (T_ldb (j := 0) rfl rfl rfl (Src.old h (fun k _ => noOwns k)) (by omega)) ?_; refine qt (T_convf rfl rfl rfl rfl (by unfold fits; omega)) ?_; refine qd ?_; refine qp ?_; refine qz ?_; refine qT ?_; refine qs ?_; refine qt (T_build0 cf_built0) ?_; (refine qw (E_storew (ds := [.slice none 0 0]) (cs := [.slice none 0 0]) rfl rfl rfl rfl (sl_one _ _ _) rfl) ?_; rintro _ _ rfl); refine qp ?_; refine qz ?_; rotate_left)
    all_goals (try (exfalso; first | contradiction | omega))
    all_goals (refine hB _ _ _ _ _ rfl (.cell rfl rfl rfl inferInstance rfl (.tmp rfl .nil)) fun w' hS => ⟨(none, 0), rfl, trivial, (hS.sublist (List.nil_sublist _)).nilrow _ _⟩)
  have hsh' : ¬ l.length ≤ q := by rw [hq] at hsh; exact hsh
  focus (refine qs ?_; (refine qe (E_alloca rfl cf_alloc) ?_; rintro _ _ ⟨bc, rfl, rfl⟩); refine qp ?_; refine qz ?_; refine qq ?_; refine qs ?_; refine qp ?_; refine qp ?_; refine qf ?_; (iterate 4 refine qp ?_); refine qt (T_ixN rfl rfl rfl rfl rfl rfl (by first | assumption | exact hne (by omega) | exact hne2 (by omega)) (by omega)) ?_; refine qt (T_ldb (j := 0) rfl rfl rfl (Src.old h (fun k _ => noOwns k)) (by omega)) ?_; refine qt (T_convf rfl rfl rfl rfl (by unfold fits; omega)) ?_; refine qf ?_; refine qp ?_; refine qz ?_; refine qF ?_; refine qx ?_; refine qs ?_; (refine qe (E_alloca rfl cf_alloc) ?_; rintro _ _ ⟨bc, rfl, rfl⟩); refine qz ?_; refine qq ?_; refine qs ?_; refine qp ?_; refine qt (T_slN (sz := 1) rfl rfl rfl rfl rfl rfl (by omega) (by omega)) ?_; refine qp ?_; refine qp ?_; refine qz ?_; refine qb ?_)
  rename_i b2
  have h1 := h.cutP (k := 1) (by omega)
  obtain ⟨A1, hA1⟩ : ∃ A1, cutP A c 1 1 = A1 := ⟨_, rfl⟩
  rw [hA1] at h1 ⊢
  have hne1 : 0 < n - 1 → A1 ≠ none := fun h0 => by obtain ⟨ad, rfl, _⟩ := h1.rd.2 h0; simp
  refine S_loop (X := Nat × Option Addr × Nat) (fun x => [(0, .slice A n c), (2, .pointer (some ⟨b2, 0, none⟩)), (4, .pointer (some ⟨bc, 0, none⟩)), (21, .slice A1 (n - 1) (c - 1)), (22, .int .i64 ((n - 1 : Nat) : Int)), (23, .int .i64 (x.1 : Int))]) (fun x => [row 3 1 x.2.1 x.1 x.2.2 (((decM l).take x.1).map zv), pt bc 33 [.slice x.2.1 x.1 x.2.2], pt b2 33 [.slice none 0 0]]) (fun x => x.1 ≤ n - 1) (fun x => n - 1 - x.1) rfl (0, none, 0) (Nat.zero_le _) (Sub.cons rfl (Sub.cons rfl (Sub.cons rfl (Sub.cons rfl (Sub.cons rfl (Sub.cons rfl Sub.nil)))))) (fun w hS => hS.nilrow _ _) ?_
  rintro ⟨j, A3, c3⟩ hj J hJ
  simp only at hj ⊢
  have hnx := decM_next l j
  obtain ⟨x, hx⟩ : ∃ x, (l.drop 1).getD j 0 = x := ⟨_, rfl⟩
  have hx8 : x.toNat < 256 := UInt8.toNat_lt _
  rw [hx] at hnx
  rcases Nat.lt_or_ge j (n - 1) with hjl | hjl
  · have hv : ((l.drop 1).map bv)[j]? = some (.int .u8 (x.toNat : Int)) := by
      rw [← hx]
      have : j < (l.drop 1).length := by simp; omega
      simp [bv, List.getD, show j + 1 < l.length by omega]
    focus (refine qs ?_; refine qd ?_; refine qz ?_; refine qq ?_; refine qT ?_; refine qx ?_; refine qq ?_; refine qb ?_; refine qs ?_; refine qt (T_ixN rfl rfl rfl rfl rfl rfl (hne1 (by omega)) (by omega)) ?_; refine qt (T_ldr (v := .int .u8 (x.toNat : Int)) rfl rfl rfl (Src.old h1 (fun k _ => noOwns k)).rd (by omega) hv) ?_; refine qp ?_; refine qz ?_; refine qr ?_; refine qp ?_; refine qt (T_load rfl rfl rfl (by first | rfl | assumption)) ?_; refine qp ?_; refine qt (T_convf rfl rfl rfl rfl (by unfold fits; omega)) ?_; (refine qe (E_lit1 (m := 1) (vs := [zv x.toNat]) rfl rfl rfl rfl rfl rfl rfl (by simp [zv, Value.oneCell']) (by decide)) ?_; rintro _ _ ⟨bm, rfl, rfl⟩); (refine qe (E_app1 rfl rfl rfl rfl rfl rfl rfl (Srd.pt (ds := [zv x.toNat]) rfl (fun j u hj => by rw [Nat.zero_add]; exact hj)) (by simp [zv, Value.oneCell']) (by show _ * 8 ≤ _; omega) (by unfold maxLen; omega)) ?_; rintro _ _ ⟨A6, c6, rfl, rfl⟩); refine qp ?_; (refine qw (E_store1 rfl rfl rfl rfl rfl rfl (by first | decide | (simp; done) | (simp; omega) | assumption)) ?_; rintro _ _ rfl); refine qz ?_; refine RS_blk ?_; refine qr ?_; refine qt (T_addN rfl rfl (by unfold fits; omega)) ?_; refine qp ?_; refine qz ?_)
    all_goals (try (exfalso; omega))
    refine hJ (j + 1, A6, c6) _ _ (by show j + 1 ≤ _; omega) (Sub.cons rfl (Sub.cons rfl (Sub.cons rfl (Sub.cons rfl (Sub.cons rfl (Sub.cons rfl Sub.nil)))))) (fun w' hS => ?_) (by show n - 1 - (j + 1) < _; omega)
    show St _ _ [row _ 1 _ _ _ (((decM l).take (j + 1)).map zv), _, _] w'
    rw [hnx (by omega), List.map_append]
    exact hS.sublist (.cons_cons _ (.cons _ (.refl _)))
  have hjn : j = n - 1 := by omega
  subst hjn
  rw [List.take_of_length_le (by omega)]
  by_cases hq1 : n - 1 = q
  · cases hr : right (decM l)
    · have e1 : decE l = 240 := by rw [decE, if_neg hsh, if_neg]; simp [hr]
      have e2 : decL l = [] := by rw [decL, e1]; rfl
      rw [e1, e2] at hB
      focus (refine qs ?_; refine qf ?_; refine qz ?_; refine qq ?_; refine qF ?_; refine S_exit rfl rfl ?_; refine qq ?_; refine qq ?_)
      refine S_draw (_) (fun _ h => h) (by kernel_rfl) rfl (by kernel_rfl) (by kernel_rfl : _ = 13) ?_
      refine dt 0 rfl (pev_ok rfl) ?_
      refine dt 1 rfl (T_load rfl rfl rfl (by first | rfl | assumption)) ?_
      refine dt 2 rfl (pev_ok rfl) ?_
      refine dt 3 rfl (pev_ok rfl) ?_
      refine dt 4 rfl (T_ixN rfl rfl rfl rfl rfl rfl (hne (by omega)) (by omega)) ?_
      refine dt 5 rfl (T_ldb (j := 0) rfl rfl rfl (Src.old h (fun k _ => noOwns k)) (by omega)) ?_
      (refine dt 6 rfl (T_convf rfl rfl rfl rfl (by unfold fits; omega)) ?_)
      refine dt 7 rfl (T_decF rfl (by omega)) ?_
      refine dt 8 rfl (pev_ok rfl) ?_
      refine dt 9 rfl (T_loada (ds := [.slice A3 (n - 1) c3]) rfl rfl rfl rfl (fun j v h => by simpa using h)) ?_
      refine D_one 10 rfl (E_checkF rfl (Srd.row (n := n - 1) (c := c3)) (by omega) hr) ?_ rfl rfl (by kernel_rfl)
      rintro _ _ ⟨rfl, rfl⟩
      refine Nx_same sub_st ?_
      refine dt 11 rfl (pev_ok rfl) ?_
      refine dt 12 rfl (pev_ok rfl) ?_
      refine D_done ?_ (by kernel_rfl)
      skip
      focus (refine qT ?_; refine qs ?_; refine qt (T_build0 cf_built0) ?_; (refine qw (E_storew (ds := [.slice none 0 0]) (cs := [.slice none 0 0]) rfl rfl rfl rfl (sl_one _ _ _) rfl) ?_; rintro _ _ rfl); refine qp ?_; refine qz ?_)
      all_goals (try (exfalso; first | contradiction | omega))
      refine hB _ _ _ _ _ rfl (.cell rfl rfl rfl inferInstance rfl (.tmp rfl .nil)) fun w' hS => ⟨(none, 0), rfl, trivial, (hS.sublist (List.nil_sublist _)).nilrow _ _⟩
    · have e1 : decE l = 0 := by rw [decE, if_neg hsh, if_pos ⟨by omega, hr⟩]
      have e2 : decL l = decM l := by rw [decL, e1]; rfl
      rw [e1, e2, hdl, ← hl] at hB
      focus (refine qs ?_; refine qf ?_; refine qz ?_; refine qq ?_; refine qF ?_; refine S_exit rfl rfl ?_; refine qq ?_; refine qq ?_)
      refine S_draw (_) (fun _ h => h) (by kernel_rfl) rfl (by kernel_rfl) (by kernel_rfl : _ = 13) ?_
      refine dt 0 rfl (pev_ok rfl) ?_
      refine dt 1 rfl (T_load rfl rfl rfl (by first | rfl | assumption)) ?_
      refine dt 2 rfl (pev_ok rfl) ?_
      refine dt 3 rfl (pev_ok rfl) ?_
      refine dt 4 rfl (T_ixN rfl rfl rfl rfl rfl rfl (hne (by omega)) (by omega)) ?_
      refine dt 5 rfl (T_ldb (j := 0) rfl rfl rfl (Src.old h (fun k _ => noOwns k)) (by omega)) ?_
      (refine dt 6 rfl (T_convf rfl rfl rfl rfl (by unfold fits; omega)) ?_)
      refine dt 7 rfl (T_decF rfl (by omega)) ?_
      refine dt 8 rfl (pev_ok rfl) ?_
      refine dt 9 rfl (T_loada (ds := [.slice A3 (n - 1) c3]) rfl rfl rfl rfl (fun j v h => by simpa using h)) ?_
      refine D_one 10 rfl (E_checkT rfl (Srd.row (n := n - 1) (c := c3)) (by omega) hr) ?_ rfl rfl (by kernel_rfl)
      rintro _ _ ⟨rfl, rfl⟩
      refine Nx_same sub_st ?_
      refine dt 11 rfl (T_decF rfl (by omega)) ?_
      refine dt 12 rfl (pev_ok rfl) ?_
      refine D_done ?_ (by kernel_rfl)
      skip
      focus (refine qF ?_; refine qx ?_; refine qs ?_; refine qt (T_loada (ds := [.slice A3 (n - 1) c3]) rfl rfl rfl rfl (fun j v h => by simpa using h)) ?_; (refine qw (E_storew (ds := [.slice A3 (n - 1) c3]) (cs := [.slice none 0 0]) rfl rfl rfl rfl (sl_one _ _ _) rfl) ?_; rintro _ _ rfl); refine qp ?_; refine qz ?_)
      all_goals (try (exfalso; first | contradiction | omega))
      refine hB _ _ _ _ _ rfl (.cell rfl rfl rfl inferInstance rfl (.tmp rfl .nil)) fun w' hS => ⟨(A3, c3), rfl, trivial, sub_st _ hS⟩
  · have e1 : decE l = 240 := by rw [decE, if_neg hsh, if_neg]; rintro ⟨h1, h2⟩; omega
    have e2 : decL l = [] := by rw [decL, e1]; rfl
    rw [e1, e2] at hB
    focus (refine qs ?_; refine qf ?_; refine qz ?_; refine qq ?_; refine qF ?_; refine S_exit rfl rfl ?_; refine qq ?_; refine qq ?_)
    refine S_draw (_) (fun _ h => h) (by kernel_rfl) rfl (by kernel_rfl) (by kernel_rfl : _ = 13) ?_
    refine dt 0 rfl (pev_ok rfl) ?_
    refine dt 1 rfl (T_load rfl rfl rfl (by first | rfl | assumption)) ?_
    refine dt 2 rfl (pev_ok rfl) ?_
    refine dt 3 rfl (pev_ok rfl) ?_
    refine dt 4 rfl (T_ixN rfl rfl rfl rfl rfl rfl (hne (by omega)) (by omega)) ?_
    refine dt 5 rfl (T_ldb (j := 0) rfl rfl rfl (Src.old h (fun k _ => noOwns k)) (by omega)) ?_
    (refine dt 6 rfl (T_convf rfl rfl rfl rfl (by unfold fits; omega)) ?_)
    refine dt 7 rfl (T_decT rfl (by omega)) ?_
    refine dt 8 rfl (pev_ok rfl) ?_
    refine D_skip 9 rfl ?_ rfl rfl (by kernel_rfl) (by kernel_rfl)
    refine D_skip 10 rfl ?_ rfl rfl (by kernel_rfl) (by kernel_rfl)
    refine D_skip 11 rfl ?_ rfl rfl (by kernel_rfl) (by kernel_rfl)
    refine dt 12 rfl (pev_ok rfl) ?_
    refine D_done ?_ (by kernel_rfl)
    skip
    focus (refine qT ?_; refine qs ?_; refine qt (T_build0 cf_built0) ?_; (refine qw (E_storew (ds := [.slice none 0 0]) (cs := [.slice none 0 0]) rfl rfl rfl rfl (sl_one _ _ _) rfl) ?_; rintro _ _ rfl); refine qp ?_; refine qz ?_)
    all_goals (try (exfalso; first | contradiction | omega))
    refine hB _ _ _ _ _ rfl (.cell rfl rfl rfl inferInstance rfl (.tmp rfl .nil)) fun w' hS => ⟨(none, 0), rfl, trivial, (hS.sublist (List.nil_sublist _)).nilrow _ _⟩
end Go.Proofs.YtdeffdldifepkaaGreat.C
namespace Go.Proofs.YtdeffdldifepkaaGreat.C
open Go.RowKit
open Asn (pt row rb)
set_option linter.unusedVariables false
set_option linter.unusedSimpArgs false
--@use N

theorem getD_at {ms : List Int} {j : Nat} (h : j < ms.length) : ms.getD j 0 = ms[j] := by simp [List.getD, h]
theorem right_iff (ms : List Int) : right ms = true ↔ 0 < ms.length ∧ ∀ j, j < ms.length → memb (ms.getD j 0) = true ∧ (0 < j → ms.getD (j - 1) 0 < ms.getD j 0) := by
  constructor
  · intro h
    obtain ⟨h0, h1, h2⟩ := right_up h
    refine ⟨(right_len h).1, fun j hj => ⟨?_, fun h3 => up_lt h2 (by omega) hj⟩⟩
    rw [getD_at hj]
    simpa [memb] using h1 _ (List.getElem_mem hj)
  · rintro ⟨h0, h1⟩
    have key : ∀ j, j ≤ ms.length → (chk (ms.take j) (decide ((0 : Int) < (ms.length : Int)), 0)).1 = true ∧ (chk (ms.take j) (decide ((0 : Int) < (ms.length : Int)), 0)).2 = (if j = 0 then 0 else ms.getD (j - 1) 0) := by
      intro j
      induction j with
      | zero => intro _; exact ⟨by simp [chk]; omega, by simp [chk]⟩
      | succ j ih =>
        intro hj
        obtain ⟨i1, i2⟩ := ih (by omega)
        obtain ⟨g1, g2⟩ := h1 j (by omega)
        rw [chk_next ms _ j (by omega), i1, i2, g1]
        refine ⟨?_, by simp⟩
        simp only [Bool.true_and, decide_eq_true_eq]
        split
        · rw [memb, decide_eq_true_eq] at g1; omega
        · exact g2 (by omega)
    have := (key ms.length (Nat.le_refl _)).1
    rwa [List.take_length] at this
set_option maxRecDepth 100000 in
set_option maxHeartbeats 4000000 in
theorem rright_any (w : World) (A : Option Addr) (n c : Nat) (ms : List Int) (h : Rd w All 1 A n (ms.map zv)) (hn : n ≤ 100000) :
    Gives Tryz.prog 65 [cfv A n c] [] w (X := Unit) (fun _ => .bool (right ms)) (fun _ => True) (fun _ => []) := by
  refine gives_S Tryz.func65 rfl Tryz.ntmps65 Tryz.results65 (by simp) (St.enter w) (fun B hB => ?_)
  have hl : ms.length = n := by have := h.1; simpa using this
  have hne : 0 < n → A ≠ none := fun h0 => by obtain ⟨ad, rfl, _⟩ := h.2 h0; simp
  subst hl
  have hld : ∀ j, j < ms.length → (ms.map zv)[j]? = some (zv (ms.getD j 0)) := fun j hj => zv_at hj
  focus (refine qs ?_; (refine qe (E_boxa rfl) ?_; rintro _ _ ⟨b, rfl, rfl⟩); refine qp ?_; refine qz ?_; refine qq ?_; refine qs ?_; refine qp ?_; refine qt (T_load rfl rfl rfl (by first | rfl | assumption)) ?_; refine qp ?_; refine qp ?_; refine qz ?_; refine qb ?_)
  refine S_loop (X := Nat) (fun j => [(1, .pointer (some ⟨b, 0, none⟩)), (6, .slice A ms.length c), (7, .int .i64 (ms.length : Int)), (8, .int .i64 (j : Int))]) (fun _ => [pt b 33 [.slice A ms.length c]]) (fun j => j ≤ ms.length ∧ ∀ i, i < j → memb (ms.getD i 0) = true ∧ (0 < i → ms.getD (i - 1) 0 < ms.getD i 0)) (fun j => ms.length - j) rfl 0 ⟨Nat.zero_le _, fun i hi => absurd hi (by omega)⟩ (Sub.cons rfl (Sub.cons rfl (Sub.cons rfl (Sub.cons rfl Sub.nil)))) (fun _ h => h) ?_
  rintro j ⟨hj, hok⟩ J hJ
  have hbad : j < ms.length → ¬ (memb (ms.getD j 0) = true ∧ (0 < j → ms.getD (j - 1) 0 < ms.getD j 0)) → right ms = false := fun h1 h2 => Bool.eq_false_iff.2 fun h3 => h2 (((right_iff ms).1 h3).2 j h1)
  have hend : j = ms.length → right ms = decide ((0 : Int) < (ms.length : Int)) := fun h1 => by
    subst h1
    by_cases h0 : 0 < ms.length
    · rw [decide_eq_true (by omega), (right_iff ms).2 ⟨h0, hok⟩]
    · rw [decide_eq_false (by omega), Bool.eq_false_iff]
      exact fun h3 => h0 ((right_iff ms).1 h3).1
  have hgo : j < ms.length → (memb (ms.getD j 0) = true ∧ (0 < j → ms.getD (j - 1) 0 < ms.getD j 0)) → ∀ i, i < j + 1 → memb (ms.getD i 0) = true ∧ (0 < i → ms.getD (i - 1) 0 < ms.getD i 0) := fun h1 h2 i hi => by
    rcases Nat.lt_or_ge i j with h3 | h3
    · exact hok i h3
    · obtain rfl : i = j := by omega
      exact h2
  have hld1 := hld j
  have hld2 := hld (j - 1)
  obtain ⟨x, hx⟩ : ∃ x, ms.getD j 0 = x := ⟨_, rfl⟩
  obtain ⟨y, hy⟩ : ∃ y, ms.getD (j - 1) 0 = y := ⟨_, rfl⟩
  rw [hx] at hld1
  rw [hy] at hld2
  rw [hx, hy] at hbad hgo
  simp only [memb, decide_eq_true_eq] at hbad
  clear hok hld
  focus (refine qs ?_; refine qp ?_; refine qz ?_; refine qq ?_; (refine S_if rfl rfl (fun hs => ?_) (fun hs => ?_)); refine qx ?_; refine qq ?_; refine qb ?_; refine qs ?_; refine qp ?_; refine qt (T_ixN rfl rfl rfl rfl rfl rfl (by first | assumption | exact hne (by omega) | exact hne2 (by omega)) (by omega)) ?_; refine qt (T_ldr rfl rfl rfl (Srd.old h (fun k _ => noOwns k)) (by omega) (hld1 (by omega))) ?_; refine qp ?_; refine qp ?_; refine qn ?_; (iterate 3 refine qp ?_); (refine R_splitd rfl rfl (fun hs => ?_) (fun hs => ?_)); refine qk ?_; refine qk ?_; refine qp ?_; refine qp ?_; (iterate 12 refine qk ?_); refine qp ?_; refine qz ?_; refine qT ?_; refine qs ?_; refine qp ?_; refine qz ?_; rotate_left; (iterate 4 refine qp ?_); (refine R_splitd rfl rfl (fun hs => ?_) (fun hs => ?_)); (iterate 12 refine qk ?_); refine qp ?_; refine qz ?_; refine qT ?_; refine qs ?_; refine qp ?_; refine qz ?_; rotate_left; (iterate 3 refine qp ?_); (refine R_splitd rfl rfl (fun hs => ?_) (fun hs => ?_)); refine qp ?_; refine qt (T_load rfl rfl rfl (by first | rfl | assumption)) ?_; refine qp ?_; refine qt (T_subN rfl rfl (by omega) (by unfold fits; omega)) ?_; refine qt (T_ixN rfl rfl rfl rfl rfl rfl (by first | assumption | exact hne (by omega) | exact hne2 (by omega)) (by omega)) ?_; refine qt (T_ldr rfl rfl rfl (Srd.old h (fun k _ => noOwns k)) (by omega) (hld2 (by omega))) ?_; (iterate 4 refine qp ?_); refine qz ?_; (refine S_if rfl rfl (fun hs => ?_) (fun hs => ?_)); refine qs ?_; refine qp ?_; refine qz ?_; rotate_left; refine qx ?_; refine RS_blk ?_; refine qr ?_; refine qt (T_addN rfl rfl (by unfold fits; omega)) ?_; refine qp ?_; refine qz ?_; rotate_left; (iterate 8 refine qk ?_); refine qp ?_; refine qp ?_; refine qz ?_; refine qF ?_; refine qx ?_; refine RS_blk ?_; refine qr ?_; refine qt (T_addN rfl rfl (by unfold fits; omega)) ?_; refine qp ?_; refine qz ?_; rotate_left; refine S_exit rfl rfl ?_; refine qs ?_; refine qp ?_; refine qt (T_load rfl rfl rfl (by first | rfl | assumption)) ?_; (iterate 3 refine qp ?_); refine qz ?_; rotate_left)
  all_goals (try (exfalso; omega))
  all_goals first
  | (refine hJ (j + 1) _ _ ⟨by omega, hgo (by omega) ⟨decide_eq_true (by omega), fun _ => by omega⟩⟩ (Sub.cons rfl (Sub.cons rfl (Sub.cons rfl (Sub.cons rfl Sub.nil)))) (fun _ h => h) (by omega); done)
  | (refine hB _ _ _ _ _ rfl rfl fun w' hS => ⟨(), ?_, trivial, hS.sublist (List.nil_sublist _)⟩; rw [hbad (by omega) (fun hbb => by obtain ⟨g1, g2⟩ := hbb; first | omega | (have g3 := g2 (by omega); omega))]; rfl)
  | (refine hB _ _ _ _ _ rfl rfl fun w' hS => ⟨(), ?_, trivial, hS.sublist (List.nil_sublist _)⟩; rw [hend (by omega)]; rfl)
set_option maxRecDepth 100000 in
set_option maxHeartbeats 4000000 in
theorem rsame_any (w : World) (A A2 : Option Addr) (n c n2 c2 : Nat) (ms ks : List Int) (h : Rd w All 1 A n (ms.map zv)) (h2 : Rd w All 1 A2 n2 (ks.map zv)) (hn : n ≤ 1000) (hn2 : n2 ≤ 1000) :
    Gives Tryz.prog 31 [cfv A n c, cfv A2 n2 c2] [] w (X := Unit) (fun _ => .bool (decide (ms = ks))) (fun _ => True) (fun _ => []) := by
  refine gives_S Tryz.func31 rfl Tryz.ntmps31 Tryz.results31 (by simp) (St.enter w) (fun B hB => ?_)
  have hl : ms.length = n := by have := h.1; simpa using this
  have hl2 : ks.length = n2 := by have := h2.1; simpa using this
  have hne : 0 < n → A ≠ none := fun h0 => by obtain ⟨ad, rfl, _⟩ := h.2 h0; simp
  have hne2 : 0 < n2 → A2 ≠ none := fun h0 => by obtain ⟨ad, rfl, _⟩ := h2.2 h0; simp
  subst hl hl2
  have hld : ∀ j, j < ms.length → (ms.map zv)[j]? = some (zv (ms.getD j 0)) := fun j hj => zv_at hj
  have hld2 : ∀ j, j < ks.length → (ks.map zv)[j]? = some (zv (ks.getD j 0)) := fun j hj => zv_at hj
  by_cases hlen : ms.length = ks.length
  · skip
    focus (refine qs ?_; (iterate 2 (refine qe (E_boxa rfl) ?_; rintro _ _ ⟨b, rfl, rfl⟩)); refine qp ?_; refine qz ?_; refine qq ?_; refine qs ?_; (iterate 2 refine qp ?_; refine qt (T_load rfl rfl rfl (by first | rfl | assumption)) ?_; refine qp ?_); refine qf ?_; refine qz ?_; refine qF ?_; refine qx ?_; refine qq ?_; refine qs ?_; refine qp ?_; refine qt (T_load rfl rfl rfl (by first | rfl | assumption)) ?_; refine qp ?_; refine qp ?_; refine qz ?_; refine qb ?_)
    rename_i b1
    refine S_loop (X := Nat) (fun j => [(2, .pointer (some ⟨b1, 0, none⟩)), (3, .pointer (some ⟨b, 0, none⟩)), (15, .int .i64 (ms.length : Int)), (16, .int .i64 (j : Int))]) (fun _ => [pt b 33 [.slice A2 ks.length c2], pt b1 33 [.slice A ms.length c]]) (fun j => j ≤ ms.length ∧ ms.take j = ks.take j) (fun j => ms.length - j) rfl 0 ⟨Nat.zero_le _, rfl⟩ (Sub.cons rfl (Sub.cons rfl (Sub.cons rfl (Sub.cons rfl Sub.nil)))) (fun _ h => h) ?_
    rintro j ⟨hj, htk⟩ J hJ
    rcases Nat.lt_or_ge j ms.length with hjl | hjl
    · focus (refine qs ?_; refine qp ?_; refine qz ?_; refine qq ?_; (refine S_if rfl rfl (fun hs => ?_) (fun hs => ?_)); refine qx ?_; refine qq ?_; refine qb ?_; refine qs ?_; refine qp ?_; refine qp ?_; refine qz ?_; refine qq ?_; (refine S_draw _ (fun _ h => h) (by kernel_rfl) rfl (by kernel_rfl) (rfl : _ = 11) ?_; (refine dt 0 rfl (pev_ok rfl) ?_); (refine dt 1 rfl (T_load rfl rfl rfl (by first | rfl | assumption)) ?_); (refine dt 2 rfl (pev_ok rfl) ?_); (refine dt 3 rfl (T_ixN rfl rfl rfl rfl rfl rfl (by first | assumption | exact hne (by omega) | exact hne2 (by omega)) (by omega)) ?_); (refine dt 4 rfl (T_ldr rfl rfl rfl (Srd.old h (fun k _ => noOwns k)) (by omega) (hld j (by omega))) ?_); (refine dt 5 rfl (pev_ok rfl) ?_); (refine dt 6 rfl (T_load rfl rfl rfl (by first | rfl | assumption)) ?_); (refine dt 7 rfl (pev_ok rfl) ?_); (refine dt 8 rfl (T_ixN rfl rfl rfl rfl rfl rfl (by first | assumption | exact hne (by omega) | exact hne2 (by omega)) (by omega)) ?_); (refine dt 9 rfl (T_ldr rfl rfl rfl (Srd.old h2 (fun k _ => noOwns k)) (by omega) (hld2 j (by omega))) ?_); (refine dt 10 rfl (pev_ok rfl) ?_); refine D_done ?_ (by kernel_rfl)); (refine S_if rfl rfl (fun hs => ?_) (fun hs => ?_)); refine qs ?_; refine qp ?_; refine qz ?_; rotate_left; refine qx ?_; refine RS_blk ?_; refine qr ?_; refine qt (T_addN rfl rfl (by unfold fits; omega)) ?_; refine qp ?_; refine qz ?_; rotate_left; refine S_exit rfl rfl ?_; refine qs ?_; refine qp ?_; refine qz ?_; rotate_left)
      all_goals (try (exfalso; omega))
      · refine hB _ _ _ _ _ rfl rfl fun w' hS => ⟨(), ?_, trivial, hS.sublist (List.nil_sublist _)⟩
        rw [decide_eq_false]
        · rfl
        · rintro rfl; simp_all
      · refine hJ (j + 1) _ _ ⟨by omega, (take2_succ hlen hjl).2 ⟨htk, by simp_all⟩⟩ (Sub.cons rfl (Sub.cons rfl (Sub.cons rfl (Sub.cons rfl Sub.nil)))) (fun _ h => h) (by omega)
    · skip
      focus (refine qs ?_; refine qf ?_; refine qz ?_; refine qq ?_; refine qF ?_; refine S_exit rfl rfl ?_; refine qs ?_; refine qp ?_; refine qz ?_)
      all_goals (try (exfalso; omega))
      have hjn : j = ms.length := by omega
      subst hjn
      refine hB _ _ _ _ _ rfl rfl fun w' hS => ⟨(), ?_, trivial, hS.sublist (List.nil_sublist _)⟩
      rw [decide_eq_true]
      · rfl
      · rw [List.take_length, hlen, List.take_length] at htk
        exact htk
  · skip
    focus (refine qs ?_; (iterate 2 (refine qe (E_boxa rfl) ?_; rintro _ _ ⟨b, rfl, rfl⟩)); refine qp ?_; refine qz ?_; refine qq ?_; refine qs ?_; (iterate 2 refine qp ?_; refine qt (T_load rfl rfl rfl (by first | rfl | assumption)) ?_; refine qp ?_); refine qd ?_; refine qz ?_; refine qT ?_; refine qs ?_; refine qp ?_; refine qz ?_)
    all_goals (try (exfalso; omega))
    refine hB _ _ _ _ _ rfl rfl fun w' hS => ⟨(), ?_, trivial, hS.sublist (List.nil_sublist _)⟩
    rw [decide_eq_false]
    · rfl
    · rintro rfl; exact hlen rfl
end Go.Proofs.YtdeffdldifepkaaGreat.C
namespace Go.Proofs.YtdeffdldifepkaaGreat.C
open Go.RowKit
open Asn (pt row rb)
set_option linter.unusedVariables false
set_option linter.unusedSimpArgs false
--@use N

end Go.Proofs.YtdeffdldifepkaaGreat.C
namespace Go.Proofs.YtdeffdldifepkaaGreat.C
open Go.RowKit
open Asn (pt row rb)
set_option linter.unusedVariables false
set_option linter.unusedSimpArgs false
--@use N

def wide (ms : List Int) : List Value := ms.map zv ++ [zv 77, zv 0]
end Go.Proofs.YtdeffdldifepkaaGreat.C
namespace Go.Proofs.YtdeffdldifepkaaGreat.C
open Go.RowKit
open Asn (pt row rb)
set_option linter.unusedVariables false
set_option linter.unusedSimpArgs false
--@use N
section
variable {n : Nat} {w0 : World} {M : Nat → Prop} {T : Slots} {H Hr : List Asn} {dd : Option Tmp} {tt : TypeId} {pos : String} {af : Array Edge} {g : Option (Nat × Bool)} {x y z : Operand} {ts : Array TypeId} {A A2 : Option Addr} {m c m2 c2 : Nat} {ms ks : List Int} {a : Int} {bs : List UInt8}
theorem E_rrightW {r : Bool} (hx : oget T x = some (cfv A m c)) (hs : Srd w0 M H 1 A m (ms.map zv)) (hm : m ≤ 100000) (hr : right ms = r) :
    Ef Tryz.prog n w0 M T H ⟨dd, .call ⟨.value (.func 65), #[x], ts⟩, tt, pos, af, g⟩ (fun u H' => u = .bool r ∧ H' = H) := by
  refine (E_gv ⟨_, Tryz.func65, rfl, by kernel_rfl⟩ (vs := [cfv A m c]) (by simp [ogets, hx]) fun w hS => rright_any w A m c ms (hs.rd w hS) (by omega)).mono ?_
  rintro v H' ⟨_, rfl, _, rfl⟩ w hS
  exact ⟨_, _, rfl, ⟨by rw [hr], rfl⟩, hS⟩
end
end Go.Proofs.YtdeffdldifepkaaGreat.C
namespace Go.Proofs.YtdeffdldifepkaaGreat.C
open Go.RowKit Go.ChangeShapes Go.WideShapes Go.ChangeAt
open Asn (pt row rb)
set_option linter.unusedVariables false
set_option linter.unusedSimpArgs false
--@use N

/-- members that came in -/
structure Cf where
  A : Option Addr
  n : Nat
  c : Nat
  ms : List Int
def Cf.v (k : Cf) : Value := .slice k.A k.n k.c
def Cf.ok (k : Cf) (W : World) : Prop := Rd W All 1 k.A k.n (k.ms.map zv) ∧ k.n ≤ k.c ∧ k.c ≤ maxLen
instance : Inhabited Cf := ⟨⟨none, 0, 0, []⟩⟩
theorem Gives.pure {P : Program} {f : FuncId} {vs : List Value} {w : World} {v : Value} {I : Unit → Prop} {A : Unit → List Asn} (h : Gives P f vs [] w (fun _ => v) I A) : Calls P f vs.toArray w fun e w' => e = .returned v ∧ Kp All w w' :=
  h.mono fun e w' ⟨_, he, _, hS⟩ => ⟨he, hS.kpO⟩
end Go.Proofs.YtdeffdldifepkaaGreat.C
namespace Go.Proofs.YtdeffdldifepkaaGreat.C
open Go.RowKit
open Asn (pt row rb)
set_option linter.unusedVariables false
set_option linter.unusedSimpArgs false
--@use N

set_option maxRecDepth 100000 in
set_option maxHeartbeats 4000000 in
theorem rdec_any (w : World) (A : Option Addr) (n c : Nat) (l : List UInt8) (h : Bs w All A n c l) (hn : n ≤ 100000) :
    Gives Tryz.prog 101 [.slice A n c] [] w (X := Option Addr × Nat) (fun x => .tuple #[cfv x.1 (decL l).length x.2, .int .i64 (decE l)]) (fun _ => True) (fun x => [row 3 1 x.1 (decL l).length x.2 ((decL l).map zv)]) := by
  refine gives_C Tryz.func101 rfl Tryz.ntmps101 Tryz.results101 (by simp) (St.enter w) (fun B hB => ?_)
  have hl : n = l.length := h.len
  have hcap := h.cap
  have hne : 0 < n → A ≠ none := fun h0 => by obtain ⟨ad, rfl, _⟩ := h.rd.2 h0; simp
  obtain ⟨q, hq⟩ : ∃ q, b0 l = q := ⟨_, rfl⟩
  have hq' : (l.getD 0 0).toNat = q := hq
  have hq8 : (l.getD 0 0).toNat < 256 := UInt8.toNat_lt _
  have hdl := decM_len l
  by_cases hsh : l.length ≤ b0 l
  · have e1 : decE l = 7 := by rw [decE, if_pos hsh]
    have e2 : decL l = [] := by rw [decL, e1]; rfl
    rw [e1, e2] at hB
    rw [hq] at hsh
    focus (refine qs ?_; (refine qe (E_alloca rfl cf_alloc) ?_; rintro _ _ ⟨bc, rfl, rfl⟩); refine qp ?_; refine qz ?_; refine qq ?_; refine qs ?_; (iterate 4 refine qp ?_); (refine R_splitd rfl rfl (fun hs => ?_) (fun hs => ?_)); (iterate 8 refine qk ?_); refine qp ?_; refine qz ?_; refine qT ?_; refine qs ?_; refine qt (T_build0 cf_built0) ?_; (refine qw (E_storew (ds := [.slice none 0 0]) (cs := [.slice none 0 0]) rfl rfl rfl rfl (sl_one _ _ _) rfl) ?_; rintro _ _ rfl); refine qp ?_; refine qz ?_; rotate_left; refine qp ?_; refine qp ?_; refine qt (T_subN rfl rfl (by omega) (by unfold fits; omega)) ?_; refine qp ?_; refine qt (T_ixN rfl rfl rfl rfl rfl rfl (by first | assumption | exact hne (by omega) | exact hne2 (by omega)) (by omega)) ?_; refine qt (T_ldb (j := 0) rfl rfl rfl (Src.old h (fun k _ => noOwns k)) (by omega)) ?_; refine qt (T_convf rfl rfl rfl rfl (by unfold fits; omega)) ?_; refine qd ?_; refine qp ?_; refine qz ?_; refine qT ?_; refine qs ?_; refine qt (T_build0 cf_built0) ?_; (refine qw (E_storew (ds := [.slice none 0 0]) (cs := [.slice none 0 0]) rfl rfl rfl rfl (sl_one _ _ _) rfl) ?_; rintro _ _ rfl); refine qp ?_; refine qz ?_; rotate_left)
    all_goals (try (exfalso; first | contradiction | omega))
    all_goals (refine hB _ _ _ _ _ rfl (.cell rfl rfl rfl inferInstance rfl (.tmp rfl .nil)) fun w' hS => ⟨(none, 0), rfl, trivial, (hS.sublist (List.nil_sublist _)).nilrow _ _⟩)
  have hsh' : ¬ l.length ≤ q := by rw [hq] at hsh; exact hsh
  focus (refine qs ?_; (refine qe (E_alloca rfl cf_alloc) ?_; rintro _ _ ⟨bc, rfl, rfl⟩); refine qp ?_; refine qz ?_; refine qq ?_; refine qs ?_; refine qp ?_; refine qp ?_; refine qf ?_; (iterate 3 refine qp ?_); refine qt (T_subN rfl rfl (by omega) (by unfold fits; omega)) ?_; refine qp ?_; refine qt (T_ixN rfl rfl rfl rfl rfl rfl (by first | assumption | exact hne (by omega) | exact hne2 (by omega)) (by omega)) ?_; refine qt (T_ldb (j := 0) rfl rfl rfl (Src.old h (fun k _ => noOwns k)) (by omega)) ?_; refine qt (T_convf rfl rfl rfl rfl (by unfold fits; omega)) ?_; refine qf ?_; refine qp ?_; refine qz ?_; refine qF ?_; refine qx ?_; refine qs ?_; (refine qe (E_alloca rfl cf_alloc) ?_; rintro _ _ ⟨bc, rfl, rfl⟩); refine qz ?_; refine qq ?_; refine qs ?_; refine qp ?_; refine qt (T_slN (sz := 1) rfl rfl rfl rfl rfl rfl (by omega) (by omega)) ?_; refine qp ?_; refine qp ?_; refine qz ?_; refine qb ?_)
  rename_i b2
  have h1 := h.cutP (k := 1) (by omega)
  obtain ⟨A1, hA1⟩ : ∃ A1, cutP A c 1 1 = A1 := ⟨_, rfl⟩
  rw [hA1] at h1 ⊢
  have hne1 : 0 < n - 1 → A1 ≠ none := fun h0 => by obtain ⟨ad, rfl, _⟩ := h1.rd.2 h0; simp
  refine S_loop (X := Nat × Option Addr × Nat) (fun x => [(0, .slice A n c), (2, .pointer (some ⟨b2, 0, none⟩)), (4, .pointer (some ⟨bc, 0, none⟩)), (22, .slice A1 (n - 1) (c - 1)), (23, .int .i64 ((n - 1 : Nat) : Int)), (24, .int .i64 (x.1 : Int))]) (fun x => [row 3 1 x.2.1 x.1 x.2.2 (((decM l).take x.1).map zv), pt bc 33 [.slice x.2.1 x.1 x.2.2], pt b2 33 [.slice none 0 0]]) (fun x => x.1 ≤ n - 1) (fun x => n - 1 - x.1) rfl (0, none, 0) (Nat.zero_le _) (Sub.cons rfl (Sub.cons rfl (Sub.cons rfl (Sub.cons rfl (Sub.cons rfl (Sub.cons rfl Sub.nil)))))) (fun w hS => hS.nilrow _ _) ?_
  rintro ⟨j, A3, c3⟩ hj J hJ
  simp only at hj ⊢
  have hnx := decM_next l j
  obtain ⟨x, hx⟩ : ∃ x, (l.drop 1).getD j 0 = x := ⟨_, rfl⟩
  have hx8 : x.toNat < 256 := UInt8.toNat_lt _
  rw [hx] at hnx
  rcases Nat.lt_or_ge j (n - 1) with hjl | hjl
  · have hv : ((l.drop 1).map bv)[j]? = some (.int .u8 (x.toNat : Int)) := by
      rw [← hx]
      have : j < (l.drop 1).length := by simp; omega
      simp [bv, List.getD, show j + 1 < l.length by omega]
    focus (refine qs ?_; refine qd ?_; refine qz ?_; refine qq ?_; refine qT ?_; refine qx ?_; refine qq ?_; refine qb ?_; refine qs ?_; refine qt (T_ixN rfl rfl rfl rfl rfl rfl (hne1 (by omega)) (by omega)) ?_; refine qt (T_ldr (v := .int .u8 (x.toNat : Int)) rfl rfl rfl (Src.old h1 (fun k _ => noOwns k)).rd (by omega) hv) ?_; refine qp ?_; refine qz ?_; refine qr ?_; refine qp ?_; refine qt (T_load rfl rfl rfl (by first | rfl | assumption)) ?_; refine qp ?_; refine qt (T_convf rfl rfl rfl rfl (by unfold fits; omega)) ?_; (refine qe (E_lit1 (m := 1) (vs := [zv x.toNat]) rfl rfl rfl rfl rfl rfl rfl (by simp [zv, Value.oneCell']) (by decide)) ?_; rintro _ _ ⟨bm, rfl, rfl⟩); (refine qe (E_app1 rfl rfl rfl rfl rfl rfl rfl (Srd.pt (ds := [zv x.toNat]) rfl (fun j u hj => by rw [Nat.zero_add]; exact hj)) (by simp [zv, Value.oneCell']) (by show _ * 8 ≤ _; omega) (by unfold maxLen; omega)) ?_; rintro _ _ ⟨A6, c6, rfl, rfl⟩); refine qp ?_; (refine qw (E_store1 rfl rfl rfl rfl rfl rfl (by first | decide | (simp; done) | (simp; omega) | assumption)) ?_; rintro _ _ rfl); refine qz ?_; refine RS_blk ?_; refine qr ?_; refine qt (T_addN rfl rfl (by unfold fits; omega)) ?_; refine qp ?_; refine qz ?_)
    all_goals (try (exfalso; omega))
    refine hJ (j + 1, A6, c6) _ _ (by show j + 1 ≤ _; omega) (Sub.cons rfl (Sub.cons rfl (Sub.cons rfl (Sub.cons rfl (Sub.cons rfl (Sub.cons rfl Sub.nil)))))) (fun w' hS => ?_) (by show n - 1 - (j + 1) < _; omega)
    show St _ _ [row _ 1 _ _ _ (((decM l).take (j + 1)).map zv), _, _] w'
    rw [hnx (by omega), List.map_append]
    exact hS.sublist (.cons_cons _ (.cons _ (.refl _)))
  have hjn : j = n - 1 := by omega
  subst hjn
  rw [List.take_of_length_le (by omega)]
  by_cases hq1 : n - 1 = q
  · cases hr : right (decM l)
    · have e1 : decE l = 240 := by rw [decE, if_neg hsh, if_neg]; simp [hr]
      have e2 : decL l = [] := by rw [decL, e1]; rfl
      rw [e1, e2] at hB
      focus (refine qs ?_; refine qf ?_; refine qz ?_; refine qq ?_; refine qF ?_; refine S_exit rfl rfl ?_; refine qq ?_; refine qs ?_; refine qp ?_; refine qp ?_; refine qt (T_subN rfl rfl (by omega) (by unfold fits; omega)) ?_; refine qp ?_; refine qt (T_ixN rfl rfl rfl rfl rfl rfl (hne (by omega)) (by omega)) ?_; refine qt (T_ldb (j := 0) rfl rfl rfl (Src.old h (fun k _ => noOwns k)) (by omega)) ?_; refine qt (T_convf rfl rfl rfl rfl (by unfold fits; omega)) ?_; refine qf ?_; refine qp ?_; refine qt (T_loada (ds := [.slice A3 (n - 1) c3]) rfl rfl rfl rfl (fun j v h => by simpa using h)) ?_; (refine qe (E_rrightW rfl (Srd.row (n := n - 1) (c := c3)) (by omega) hr) ?_; rintro _ _ ⟨rfl, rfl⟩); refine qt (T_not rfl) ?_; refine qp ?_; refine qz ?_; refine qT ?_; refine qs ?_; refine qt (T_build0 cf_built0) ?_; (refine qw (E_storew (ds := [.slice none 0 0]) (cs := [.slice none 0 0]) rfl rfl rfl rfl (sl_one _ _ _) rfl) ?_; rintro _ _ rfl); refine qp ?_; refine qz ?_)
      all_goals (try (exfalso; first | contradiction | omega))
      refine hB _ _ _ _ _ rfl (.cell rfl rfl rfl inferInstance rfl (.tmp rfl .nil)) fun w' hS => ⟨(none, 0), rfl, trivial, (hS.sublist (List.nil_sublist _)).nilrow _ _⟩
    · have e1 : decE l = 0 := by rw [decE, if_neg hsh, if_pos ⟨by omega, hr⟩]
      have e2 : decL l = decM l := by rw [decL, e1]; rfl
      rw [e1, e2, hdl, ← hl] at hB
      focus (refine qs ?_; refine qf ?_; refine qz ?_; refine qq ?_; refine qF ?_; refine S_exit rfl rfl ?_; refine qq ?_; refine qs ?_; refine qp ?_; refine qp ?_; refine qt (T_subN rfl rfl (by omega) (by unfold fits; omega)) ?_; refine qp ?_; refine qt (T_ixN rfl rfl rfl rfl rfl rfl (hne (by omega)) (by omega)) ?_; refine qt (T_ldb (j := 0) rfl rfl rfl (Src.old h (fun k _ => noOwns k)) (by omega)) ?_; refine qt (T_convf rfl rfl rfl rfl (by unfold fits; omega)) ?_; refine qf ?_; refine qp ?_; refine qt (T_loada (ds := [.slice A3 (n - 1) c3]) rfl rfl rfl rfl (fun j v h => by simpa using h)) ?_; (refine qe (E_rrightW rfl (Srd.row (n := n - 1) (c := c3)) (by omega) hr) ?_; rintro _ _ ⟨rfl, rfl⟩); refine qt (T_not rfl) ?_; refine qp ?_; refine qz ?_; refine qF ?_; refine qx ?_; refine qs ?_; refine qt (T_loada (ds := [.slice A3 (n - 1) c3]) rfl rfl rfl rfl (fun j v h => by simpa using h)) ?_; (refine qw (E_storew (ds := [.slice A3 (n - 1) c3]) (cs := [.slice none 0 0]) rfl rfl rfl rfl (sl_one _ _ _) rfl) ?_; rintro _ _ rfl); refine qp ?_; refine qz ?_)
      all_goals (try (exfalso; first | contradiction | omega))
      refine hB _ _ _ _ _ rfl (.cell rfl rfl rfl inferInstance rfl (.tmp rfl .nil)) fun w' hS => ⟨(A3, c3), rfl, trivial, sub_st _ hS⟩
  · have e1 : decE l = 240 := by rw [decE, if_neg hsh, if_neg]; rintro ⟨h1, h2⟩; omega
    have e2 : decL l = [] := by rw [decL, e1]; rfl
    rw [e1, e2] at hB
    focus (refine qs ?_; refine qf ?_; refine qz ?_; refine qq ?_; refine qF ?_; refine S_exit rfl rfl ?_; refine qq ?_; refine qs ?_; refine qp ?_; refine qp ?_; refine qt (T_subN rfl rfl (by omega) (by unfold fits; omega)) ?_; refine qp ?_; refine qt (T_ixN rfl rfl rfl rfl rfl rfl (hne (by omega)) (by omega)) ?_; refine qt (T_ldb (j := 0) rfl rfl rfl (Src.old h (fun k _ => noOwns k)) (by omega)) ?_; refine qt (T_convf rfl rfl rfl rfl (by unfold fits; omega)) ?_; refine qd ?_; refine qp ?_; (iterate 3 refine qk ?_); refine qp ?_; refine qz ?_; refine qT ?_; refine qs ?_; refine qt (T_build0 cf_built0) ?_; (refine qw (E_storew (ds := [.slice none 0 0]) (cs := [.slice none 0 0]) rfl rfl rfl rfl (sl_one _ _ _) rfl) ?_; rintro _ _ rfl); refine qp ?_; refine qz ?_)
    all_goals (try (exfalso; first | contradiction | omega))
    refine hB _ _ _ _ _ rfl (.cell rfl rfl rfl inferInstance rfl (.tmp rfl .nil)) fun w' hS => ⟨(none, 0), rfl, trivial, (hS.sublist (List.nil_sublist _)).nilrow _ _⟩
end Go.Proofs.YtdeffdldifepkaaGreat.C
namespace Go.Proofs.YtdeffdldifepkaaGreat.C
open Go.RowKit Go.ChangeShapes Go.WideShapes Go.ChangeAt
open Asn (pt row rb)
set_option linter.unusedVariables false
set_option linter.unusedSimpArgs false
--@use N

section
variable {n : Nat} {w0 : World} {M : Nat → Prop} {T : Slots} {H Hr : List Asn} {dd : Option Tmp} {tt : TypeId} {pos : String} {af : Array Edge} {g : Option (Nat × Bool)} {x y z : Operand} {ts : Array TypeId} {A A2 : Option Addr} {m c m2 c2 : Nat} {ms ks : List Int} {a : Int} {bs : List UInt8}
end
/-- bytes that came in -/
structure Rw where
  A : Option Addr
  n : Nat
  c : Nat
  l : List UInt8
def Rw.v (k : Rw) : Value := .slice k.A k.n k.c
def Rw.ok (k : Rw) (W : World) : Prop := Bs W All k.A k.n k.c k.l
instance : Inhabited Rw := ⟨⟨none, 0, 0, []⟩⟩
end Go.Proofs.YtdeffdldifepkaaGreat.C
namespace Go.Proofs.YtdeffdldifepkaaGreat.C
open Go.RowKit
open Asn (pt row rb)
set_option linter.unusedVariables false
set_option linter.unusedSimpArgs false
--@use N

end Go.Proofs.YtdeffdldifepkaaGreat.C
namespace Go.Proofs.YtdeffdldifepkaaGreat.C
open Go.RowKit
open Asn (pt row rb)
set_option linter.unusedVariables false
set_option linter.unusedSimpArgs false
--@use N

section
variable {n : Nat} {w0 : World} {M : Nat → Prop} {T : Slots} {H Hr : List Asn} {dd : Option Tmp} {tt : TypeId} {pos : String} {af : Array Edge} {g : Option (Nat × Bool)} {x y z : Operand} {ts : Array TypeId} {A A1 A2 : Option Addr}
end
end Go.Proofs.YtdeffdldifepkaaGreat.C
namespace Go.Proofs.YtdeffdldifepkaaGreat.C
open Go.RowKit
set_option linter.unusedVariables false
set_option linter.unusedSimpArgs false

end Go.Proofs.YtdeffdldifepkaaGreat.C
namespace Go.Proofs.YtdeffdldifepkaaGreat.C
open Go.RowKit
open Asn (pt row rb)
set_option linter.unusedVariables false
set_option linter.unusedSimpArgs false
--@use N

section
variable {n : Nat} {w0 : World} {M : Nat → Prop} {T : Slots} {H Hr : List Asn} {dd : Option Tmp} {tt : TypeId} {pos : String} {af : Array Edge} {g : Option (Nat × Bool)} {x y z : Operand} {ts : Array TypeId} {A A1 A2 : Option Addr} {m c m1 cc1 m2 cc2 : Nat} {ms ks : List Int} {L : List (Int × Nat)} {a : Int}
end
end Go.Proofs.YtdeffdldifepkaaGreat.C
namespace Go.Proofs.YtdeffdldifepkaaGreat.C
open Go.RowKit
open Asn (pt row rb)
set_option linter.unusedVariables false
set_option linter.unusedSimpArgs false
--@use N

section
variable {n : Nat} {w0 : World} {M : Nat → Prop} {T : Slots} {H Hr : List Asn} {dd : Option Tmp} {tt : TypeId} {pos : String} {af : Array Edge} {g : Option (Nat × Bool)} {x y z : Operand} {ts : Array TypeId}
end
section
variable {n : Nat} {w0 : World} {M : Nat → Prop} {T : Slots} {H Hr : List Asn} {dd : Option Tmp} {tt : TypeId} {pos : String} {af : Array Edge} {g : Option (Nat × Bool)} {x y z : Operand} {ts : Array TypeId}
end
/-! two that change places -/
end Go.Proofs.YtdeffdldifepkaaGreat.C
namespace Go.Proofs.YtdeffdldifepkaaGreat.C
open Go.RowKit
open Asn (pt row rb)
set_option linter.unusedVariables false
set_option linter.unusedSimpArgs false
--@use N

end Go.Proofs.YtdeffdldifepkaaGreat.C
namespace Go.Proofs.YtdeffdldifepkaaGreat
open Go.RowKit
open Asn (pt row rb)
set_option linter.unusedVariables false
set_option linter.unusedSimpArgs false
--@use N

/-- an entry: its term, its kind, its bytes and where they lie -/
abbrev Em := Nat × Int × Dt
/-- what an entry says -/
abbrev En := Nat × Int × List UInt8
abbrev At := Nat × Nat
def emc (m : Em) : List Value := [.int .u64 (m.1 : Int), .int .i64 m.2.1, .slice m.2.2.1 m.2.2.2.2.length m.2.2.2.1]
def emv (m : Em) : En := (m.1, m.2.1, m.2.2.2.2)
def atc (a : At) : List Value := [.int .u64 (a.1 : Int), .int .u64 (a.2 : Int)]
def lgc (a : At) (A : Option Addr) (n c : Nat) : List Value := [.int .u64 (a.1 : Int), .int .u64 (a.2 : Int), .slice A n c]
theorem emc_len (m : Em) : (emc m).length = 3 := rfl
theorem emc_one (m : Em) : ∀ u ∈ emc m, u.oneCell' = true := by simp [emc, Value.oneCell']
theorem atc_one (a : At) : ∀ u ∈ atc a, u.oneCell' = true := by simp [atc, Value.oneCell']
theorem lgc_one (a : At) (A : Option Addr) (n c : Nat) : ∀ u ∈ lgc a A n c, u.oneCell' = true := by simp [lgc, Value.oneCell']
theorem em_zero : ti59.zero = .agg (emc (0, 0, none, 0, [])).toArray := by kernel_rfl
theorem at_zero : ti36.zero = .agg (atc (0, 0)).toArray := by kernel_rfl
theorem lg_zero : ti39.zero = .agg (lgc (0, 0) none 0 0).toArray := by kernel_rfl
theorem at_built0 : Tryz.prog.built 36 [] = some (atc (0, 0)).toArray := by kernel_rfl
theorem at_built2 (i t : Nat) : Tryz.prog.built 36 [(0, .int .u64 (i : Int)), (1, .int .u64 (t : Int))] = some (atc (i, t)).toArray := by kernel_rfl
theorem lg_built0 : Tryz.prog.built 39 [] = some (lgc (0, 0) none 0 0).toArray := by kernel_rfl
theorem lg_built2 (a : At) (A : Option Addr) (n c : Nat) : Tryz.prog.built 39 [(0, .agg (atc a).toArray), (1, .slice A n c)] = some (lgc a A n c).toArray := by kernel_rfl
section
variable {n : Nat} {w0 : World} {M : Nat → Prop} {T : Slots} {H : List Asn} {dd : Option Tmp} {tt : TypeId} {pos : String} {af : Array Edge} {g : Option (Nat × Bool)} {x y : Operand}
theorem T_eqAt {u : TypeId} {a b : At} {r : Bool} (hx : oget T x = some (.agg (atc a).toArray)) (hy : oget T y = some (.agg (atc b).toArray)) (hr : decide (a = b) = r) :
    Tk Tryz.prog n w0 M T H ⟨dd, .binOp .eql 36 x y u, tt, pos, af, g⟩ (.bool (r)) := by
  refine T_eqS (r := r) hx hy (s := 36) (i := ti36) rfl rfl (by kernel_rfl) (by kernel_rfl) rfl ?_
  subst hr
  obtain ⟨a1, a2⟩ := a
  obtain ⟨b1, b2⟩ := b
  show ((a1 : Int) == (b1 : Int) && ((a2 : Int) == (b2 : Int) && true)) = _
  rw [Bool.and_true, Bool.eq_iff_iff]
  simp
  omega
theorem T_neAt {u : TypeId} {a b : At} {r : Bool} (hx : oget T x = some (.agg (atc a).toArray)) (hy : oget T y = some (.agg (atc b).toArray)) (hr : decide (a = b) = r) :
    Tk Tryz.prog n w0 M T H ⟨dd, .binOp .neq 36 x y u, tt, pos, af, g⟩ (.bool (!r)) := by
  refine T_neS (r := r) hx hy (s := 36) (i := ti36) rfl rfl (by kernel_rfl) (by kernel_rfl) rfl ?_
  subst hr
  obtain ⟨a1, a2⟩ := a
  obtain ⟨b1, b2⟩ := b
  show ((a1 : Int) == (b1 : Int) && ((a2 : Int) == (b2 : Int) && true)) = _
  rw [Bool.and_true, Bool.eq_iff_iff]
  simp
  omega
end
/-- may an entry be? -/
def placedB (e : En) : Bool := if e.2.1 = 1 then decide (0 < e.1) && decide (e.2.2.length = 0) else if e.2.1 = 2 ∨ e.2.1 = 3 then decide (0 < e.1) && decide (e.2.2.length ≤ 1024) else false
/-- the term of the last entry -/
def lastT (l : List En) (t : Nat) : Nat := match l.getLast? with | some e => e.1 | none => t
/-- may entries be, and do their terms not fall? -/
def risingB : List En → Nat → Bool
  | [], _ => true
  | e :: l, t => placedB e && decide (t ≤ e.1) && risingB l e.1
def rightB (a : At) (l : List En) : Bool := (decide (a = (0, 0)) || (decide (0 < a.1) && decide (0 < a.2))) && decide (l.length ≤ 16) && decide (a.1 ≤ 18446744073709551614 - l.length) && risingB l a.2
def lastA (a : At) (l : List En) : At := (a.1 + l.length, lastT l a.2)
theorem lastT_app (l1 l2 : List En) (t : Nat) : lastT (l1 ++ l2) t = lastT l2 (lastT l1 t) := by
  unfold lastT
  rw [List.getLast?_append]
  cases l2.getLast? <;> rfl
theorem rising_app : ∀ (l1 l2 : List En) (t : Nat), risingB (l1 ++ l2) t = (risingB l1 t && risingB l2 (lastT l1 t))
  | [], l2, t => by simp [risingB, lastT]
  | e :: l1, l2, t => by
    have ih := rising_app l1 l2 e.1
    have e2 : lastT (e :: l1) t = lastT l1 e.1 := by
      have := lastT_app [e] l1 t
      exact this
    rw [List.cons_append, risingB, risingB, ih, e2, Bool.and_assoc, Bool.and_assoc, Bool.and_assoc]
theorem emv_take (Q : List Em) (j : Nat) (hj : j < Q.length) {m : Em} (hm : Q.getD j default = m) : (Q.take (j + 1)).map emv = (Q.take j).map emv ++ [emv m] := by
  subst hm
  rw [List.take_succ_eq_append_getElem hj, List.map_append]
  simp [List.getD, hj]
theorem emv_drop (Q : List Em) (j : Nat) (hj : j < Q.length) {m : Em} (hm : Q.getD j default = m) : Q.map emv = (Q.take j).map emv ++ emv m :: (Q.drop (j + 1)).map emv := by
  subst hm
  conv => lhs; rw [← List.take_append_drop j Q, List.drop_eq_getElem_cons hj]
  rw [List.map_append, List.map_cons]
  simp [List.getD, hj]
set_option maxRecDepth 100000 in
set_option maxHeartbeats 4000000 in
theorem placed_any (w : World) (m : Em) :
    Gives Tryz.prog 129 [.agg (emc m).toArray] [] w (X := Unit) (fun _ => .bool (placedB (emv m))) (fun _ => True) (fun _ => []) := by
  refine gives_S Tryz.func129 rfl Tryz.ntmps129 Tryz.results129 (by simp) (St.enter w) (fun B hB => ?_)
  obtain ⟨t, k, A, c, l⟩ := m
  obtain ⟨n, hn⟩ : ∃ n, l.length = n := ⟨_, rfl⟩
  have hp : placedB (emv (t, k, A, c, l)) = if k = 1 then decide (0 < t) && decide (n = 0) else if k = 2 ∨ k = 3 then decide (0 < t) && decide (n ≤ 1024) else false := by rw [← hn]; rfl
  rw [hp]at hB
  rw [show (emc (t, k, A, c, l)) = [.int .u64 (t : Int), .int .i64 k, .slice A n c] by rw [← hn]; rfl]
  by_cases h1 : k = 1
  · rw [if_pos h1] at hB
    by_cases h2 : 0 < t
    · by_cases h3 : n = 0
      · rw [decide_eq_true h2, decide_eq_true h3] at hB
        focus (refine qs ?_; (refine qe (E_boxa (cs := [.int .u64 (t : Int), .int .i64 k, .slice A n c]) rfl) ?_; rintro _ _ ⟨b1, rfl, rfl⟩); refine qp ?_; refine qz ?_; refine qq ?_; refine qs ?_; refine qp ?_; refine qt (T_load rfl rfl rfl rfl) ?_; refine qz ?_; refine qb ?_; refine qs ?_; refine qd ?_; refine qp ?_; refine qz ?_; refine qT ?_; refine qs ?_; refine qp ?_; refine qt (T_load rfl rfl rfl rfl) ?_; refine qd ?_; refine qp ?_; refine qp ?_; refine qt (T_load rfl rfl rfl rfl) ?_; refine qp ?_; refine qd ?_; refine qp ?_; refine qp ?_; refine qz ?_)
        exact hB _ _ _ _ _ rfl rfl fun w' hS => ⟨(), rfl, trivial, hS.sublist (List.nil_sublist _)⟩
      · rw [decide_eq_true h2, decide_eq_false h3] at hB
        focus (refine qs ?_; (refine qe (E_boxa (cs := [.int .u64 (t : Int), .int .i64 k, .slice A n c]) rfl) ?_; rintro _ _ ⟨b1, rfl, rfl⟩); refine qp ?_; refine qz ?_; refine qq ?_; refine qs ?_; refine qp ?_; refine qt (T_load rfl rfl rfl rfl) ?_; refine qz ?_; refine qb ?_; refine qs ?_; refine qd ?_; refine qp ?_; refine qz ?_; refine qT ?_; refine qs ?_; refine qp ?_; refine qt (T_load rfl rfl rfl rfl) ?_; refine qd ?_; refine qp ?_; refine qp ?_; refine qt (T_load rfl rfl rfl rfl) ?_; refine qp ?_; refine qf ?_; refine qp ?_; refine qp ?_; refine qz ?_)
        exact hB _ _ _ _ _ rfl rfl fun w' hS => ⟨(), rfl, trivial, hS.sublist (List.nil_sublist _)⟩
    · rw [decide_eq_false h2, Bool.false_and] at hB
      focus (refine qs ?_; (refine qe (E_boxa (cs := [.int .u64 (t : Int), .int .i64 k, .slice A n c]) rfl) ?_; rintro _ _ ⟨b1, rfl, rfl⟩); refine qp ?_; refine qz ?_; refine qq ?_; refine qs ?_; refine qp ?_; refine qt (T_load rfl rfl rfl rfl) ?_; refine qz ?_; refine qb ?_; refine qs ?_; refine qd ?_; refine qp ?_; refine qz ?_; refine qT ?_; refine qs ?_; refine qp ?_; refine qt (T_load rfl rfl rfl rfl) ?_; refine qf ?_; refine qp ?_; (iterate 4 refine qk ?_); refine qp ?_; refine qp ?_; refine qz ?_)
      exact hB _ _ _ _ _ rfl rfl fun w' hS => ⟨(), rfl, trivial, hS.sublist (List.nil_sublist _)⟩
  rw [if_neg h1] at hB
  by_cases h23 : k = 2 ∨ k = 3
  · rw [if_pos h23] at hB
    by_cases h2 : 0 < t
    · by_cases h3 : n ≤ 1024
      · rw [decide_eq_true h2, decide_eq_true h3] at hB
        by_cases h4 : k = 2
        · focus (refine qs ?_; (refine qe (E_boxa (cs := [.int .u64 (t : Int), .int .i64 k, .slice A n c]) rfl) ?_; rintro _ _ ⟨b1, rfl, rfl⟩); refine qp ?_; refine qz ?_; refine qq ?_; refine qs ?_; refine qp ?_; refine qt (T_load rfl rfl rfl rfl) ?_; refine qz ?_; refine qb ?_; refine qs ?_; refine qf ?_; refine qp ?_; refine qz ?_; refine qF ?_; refine qq ?_; refine qs ?_; refine qd ?_; refine qp ?_; refine qz ?_; refine qT ?_; refine qx ?_; refine qT ?_; refine qs ?_; refine qp ?_; refine qt (T_load rfl rfl rfl rfl) ?_; refine qd ?_; refine qp ?_; refine qp ?_; refine qt (T_load rfl rfl rfl rfl) ?_; refine qp ?_; refine qd ?_; refine qp ?_; refine qp ?_; refine qz ?_)
          exact hB _ _ _ _ _ rfl rfl fun w' hS => ⟨(), rfl, trivial, hS.sublist (List.nil_sublist _)⟩
        · focus (refine qs ?_; (refine qe (E_boxa (cs := [.int .u64 (t : Int), .int .i64 k, .slice A n c]) rfl) ?_; rintro _ _ ⟨b1, rfl, rfl⟩); refine qp ?_; refine qz ?_; refine qq ?_; refine qs ?_; refine qp ?_; refine qt (T_load rfl rfl rfl rfl) ?_; refine qz ?_; refine qb ?_; refine qs ?_; refine qf ?_; refine qp ?_; refine qz ?_; refine qF ?_; refine qq ?_; refine qs ?_; refine qf ?_; refine qp ?_; refine qz ?_; refine qF ?_; refine qr ?_; refine qd ?_; refine qp ?_; refine qz ?_; refine qT ?_; refine qs ?_; refine qp ?_; refine qt (T_load rfl rfl rfl rfl) ?_; refine qd ?_; refine qp ?_; refine qp ?_; refine qt (T_load rfl rfl rfl rfl) ?_; refine qp ?_; refine qd ?_; refine qp ?_; refine qp ?_; refine qz ?_)
          exact hB _ _ _ _ _ rfl rfl fun w' hS => ⟨(), rfl, trivial, hS.sublist (List.nil_sublist _)⟩
      · rw [decide_eq_true h2, decide_eq_false h3] at hB
        by_cases h4 : k = 2
        · focus (refine qs ?_; (refine qe (E_boxa (cs := [.int .u64 (t : Int), .int .i64 k, .slice A n c]) rfl) ?_; rintro _ _ ⟨b1, rfl, rfl⟩); refine qp ?_; refine qz ?_; refine qq ?_; refine qs ?_; refine qp ?_; refine qt (T_load rfl rfl rfl rfl) ?_; refine qz ?_; refine qb ?_; refine qs ?_; refine qf ?_; refine qp ?_; refine qz ?_; refine qF ?_; refine qq ?_; refine qs ?_; refine qd ?_; refine qp ?_; refine qz ?_; refine qT ?_; refine qx ?_; refine qT ?_; refine qs ?_; refine qp ?_; refine qt (T_load rfl rfl rfl rfl) ?_; refine qd ?_; refine qp ?_; refine qp ?_; refine qt (T_load rfl rfl rfl rfl) ?_; refine qp ?_; refine qf ?_; refine qp ?_; refine qp ?_; refine qz ?_)
          exact hB _ _ _ _ _ rfl rfl fun w' hS => ⟨(), rfl, trivial, hS.sublist (List.nil_sublist _)⟩
        · focus (refine qs ?_; (refine qe (E_boxa (cs := [.int .u64 (t : Int), .int .i64 k, .slice A n c]) rfl) ?_; rintro _ _ ⟨b1, rfl, rfl⟩); refine qp ?_; refine qz ?_; refine qq ?_; refine qs ?_; refine qp ?_; refine qt (T_load rfl rfl rfl rfl) ?_; refine qz ?_; refine qb ?_; refine qs ?_; refine qf ?_; refine qp ?_; refine qz ?_; refine qF ?_; refine qq ?_; refine qs ?_; refine qf ?_; refine qp ?_; refine qz ?_; refine qF ?_; refine qr ?_; refine qd ?_; refine qp ?_; refine qz ?_; refine qT ?_; refine qs ?_; refine qp ?_; refine qt (T_load rfl rfl rfl rfl) ?_; refine qd ?_; refine qp ?_; refine qp ?_; refine qt (T_load rfl rfl rfl rfl) ?_; refine qp ?_; refine qf ?_; refine qp ?_; refine qp ?_; refine qz ?_)
          exact hB _ _ _ _ _ rfl rfl fun w' hS => ⟨(), rfl, trivial, hS.sublist (List.nil_sublist _)⟩
    · rw [decide_eq_false h2, Bool.false_and] at hB
      by_cases h4 : k = 2
      · focus (refine qs ?_; (refine qe (E_boxa (cs := [.int .u64 (t : Int), .int .i64 k, .slice A n c]) rfl) ?_; rintro _ _ ⟨b1, rfl, rfl⟩); refine qp ?_; refine qz ?_; refine qq ?_; refine qs ?_; refine qp ?_; refine qt (T_load rfl rfl rfl rfl) ?_; refine qz ?_; refine qb ?_; refine qs ?_; refine qf ?_; refine qp ?_; refine qz ?_; refine qF ?_; refine qq ?_; refine qs ?_; refine qd ?_; refine qp ?_; refine qz ?_; refine qT ?_; refine qx ?_; refine qT ?_; refine qs ?_; refine qp ?_; refine qt (T_load rfl rfl rfl rfl) ?_; refine qf ?_; refine qp ?_; (iterate 4 refine qk ?_); refine qp ?_; refine qp ?_; refine qz ?_)
        exact hB _ _ _ _ _ rfl rfl fun w' hS => ⟨(), rfl, trivial, hS.sublist (List.nil_sublist _)⟩
      · focus (refine qs ?_; (refine qe (E_boxa (cs := [.int .u64 (t : Int), .int .i64 k, .slice A n c]) rfl) ?_; rintro _ _ ⟨b1, rfl, rfl⟩); refine qp ?_; refine qz ?_; refine qq ?_; refine qs ?_; refine qp ?_; refine qt (T_load rfl rfl rfl rfl) ?_; refine qz ?_; refine qb ?_; refine qs ?_; refine qf ?_; refine qp ?_; refine qz ?_; refine qF ?_; refine qq ?_; refine qs ?_; refine qf ?_; refine qp ?_; refine qz ?_; refine qF ?_; refine qr ?_; refine qd ?_; refine qp ?_; refine qz ?_; refine qT ?_; refine qs ?_; refine qp ?_; refine qt (T_load rfl rfl rfl rfl) ?_; refine qf ?_; refine qp ?_; (iterate 4 refine qk ?_); refine qp ?_; refine qp ?_; refine qz ?_)
        exact hB _ _ _ _ _ rfl rfl fun w' hS => ⟨(), rfl, trivial, hS.sublist (List.nil_sublist _)⟩
  · rw [if_neg h23] at hB
    focus (refine qs ?_; (refine qe (E_boxa (cs := [.int .u64 (t : Int), .int .i64 k, .slice A n c]) rfl) ?_; rintro _ _ ⟨b1, rfl, rfl⟩); refine qp ?_; refine qz ?_; refine qq ?_; refine qs ?_; refine qp ?_; refine qt (T_load rfl rfl rfl rfl) ?_; refine qz ?_; refine qb ?_; refine qs ?_; refine qf ?_; refine qp ?_; refine qz ?_; refine qF ?_; refine qq ?_; refine qs ?_; refine qf ?_; refine qp ?_; refine qz ?_; refine qF ?_; refine qr ?_; refine qf ?_; refine qp ?_; refine qz ?_; refine qF ?_; refine qx ?_; refine RS_blk ?_; refine qs ?_; refine qp ?_; refine qz ?_)
    exact hB _ _ _ _ _ rfl rfl fun w' hS => ⟨(), rfl, trivial, hS.sublist (List.nil_sublist _)⟩
set_option maxRecDepth 100000 in
set_option maxHeartbeats 4000000 in
theorem rising_any (w : World) (A : Option Addr) (c : Nat) (Q : List Em) (t : Nat) (h : Rd w All 3 A Q.length (cellsL emc Q)) (hn : Q.length ≤ 100000) :
    Gives Tryz.prog 167 [.slice A Q.length c, .int .u64 (t : Int)] [] w (X := Unit) (fun _ => .bool (risingB (Q.map emv) t)) (fun _ => True) (fun _ => []) := by
  refine gives_S Tryz.func167 rfl Tryz.ntmps167 Tryz.results167 (by simp) (St.enter w) (fun B hB => ?_)
  have hne : 0 < Q.length → A ≠ none := fun h0 => by obtain ⟨ad, rfl, _⟩ := h.2 (by omega); simp
  focus (refine qs ?_; refine qp ?_; refine qz ?_; refine qq ?_; refine qs ?_; (iterate 3 refine qp ?_); refine qz ?_; refine qb ?_)
  refine S_loop (X := Nat × Nat) (fun x => [(1, .int .u64 (x.2 : Int)), (7, .slice A Q.length c), (8, .int .i64 (Q.length : Int)), (9, .int .i64 (x.1 : Int))]) (fun _ => []) (fun x => x.1 ≤ Q.length ∧ risingB ((Q.take x.1).map emv) t = true ∧ lastT ((Q.take x.1).map emv) t = x.2) (fun x => Q.length - x.1) rfl (0, t) ⟨Nat.zero_le _, rfl, rfl⟩ (Sub.cons rfl (Sub.cons rfl (Sub.cons rfl (Sub.cons rfl Sub.nil)))) sub_st ?_
  rintro ⟨j, u⟩ ⟨hj, hok, hu⟩ J hJ
  dsimp only at hj hok hu ⊢
  rcases Nat.lt_or_ge j Q.length with hjl | hjl
  · have hne := hne (by omega)
    have hat := cellsL_at (f := emc) emc_len Q default j hjl
    obtain ⟨m, hm⟩ : ∃ m, Q.getD j default = m := ⟨_, rfl⟩
    rw [hm] at hat
    have htk := emv_take Q j hjl hm
    have hdr := emv_drop Q j hjl hm
    obtain ⟨r, hr⟩ : ∃ r, placedB (emv m) = r := ⟨_, rfl⟩
    have hfl : r = false ∨ m.1 < u → risingB (Q.map emv) t = false := fun h => by
      rw [hdr, rising_app, hok, hu, risingB, hr]
      rcases h with h | h
      · rw [h]; rfl
      · rw [decide_eq_false (by show ¬ u ≤ m.1; omega)]; simp
    have hnx : r = true → u ≤ m.1 → risingB ((Q.take (j + 1)).map emv) t = true ∧ lastT ((Q.take (j + 1)).map emv) t = m.1 := fun h1 h2 => by
      rw [htk, rising_app, lastT_app, hok, hu, risingB, risingB, hr, h1]
      exact ⟨by simp; exact h2, rfl⟩
    cases r
    · rw [hfl (.inl rfl)] at hB
      focus (refine qs ?_; refine qd ?_; refine qz ?_; refine qq ?_; refine qT ?_; refine qx ?_; refine qq ?_; refine qb ?_; refine qs ?_; refine qt (T_ixM (sz := 3) rfl rfl rfl rfl rfl rfl hne hjl) ?_; refine qt (T_lda (ds := emc m) rfl rfl rfl (Srd.old h (fun k _ => noOwns k)) rfl (by omega) hat) ?_; (refine qe (E_alloca rfl em_zero) ?_; rintro _ _ ⟨b6, rfl, rfl⟩); (refine qw (E_storew (cs := emc (0, 0, none, 0, [])) (ds := emc m) rfl rfl rfl rfl (emc_one _) rfl) ?_; rintro _ _ rfl); refine qz ?_; refine qq ?_; refine qs ?_; refine qt (T_loads (ds := emc m) rfl rfl rfl rfl rfl) ?_; ((refine qe (E_hv0 (f := 129) ⟨_, Tryz.func129, rfl, by kernel_rfl⟩ (fun w hS => placed_any w m) rfl rfl (fun _ => rfl)) ?_; rintro _ _ ⟨_, rfl, _, rfl⟩); rw [hr]); refine qt (T_not rfl) ?_; refine qd ?_; (iterate 4 refine qk ?_); refine qd ?_; refine qz ?_; refine qT ?_; refine qs ?_; refine qp ?_; refine qz ?_)
      exact hB _ _ _ _ _ rfl rfl fun w' hS => ⟨(), rfl, trivial, hS.sublist (List.nil_sublist _)⟩
    by_cases hmu : m.1 < u
    · rw [hfl (.inr hmu)] at hB
      focus (refine qs ?_; refine qd ?_; refine qz ?_; refine qq ?_; refine qT ?_; refine qx ?_; refine qq ?_; refine qb ?_; refine qs ?_; refine qt (T_ixM (sz := 3) rfl rfl rfl rfl rfl rfl hne hjl) ?_; refine qt (T_lda (ds := emc m) rfl rfl rfl (Srd.old h (fun k _ => noOwns k)) rfl (by omega) hat) ?_; (refine qe (E_alloca rfl em_zero) ?_; rintro _ _ ⟨b6, rfl, rfl⟩); (refine qw (E_storew (cs := emc (0, 0, none, 0, [])) (ds := emc m) rfl rfl rfl rfl (emc_one _) rfl) ?_; rintro _ _ rfl); refine qz ?_; refine qq ?_; refine qs ?_; refine qt (T_loads (ds := emc m) rfl rfl rfl rfl rfl) ?_; ((refine qe (E_hv0 (f := 129) ⟨_, Tryz.func129, rfl, by kernel_rfl⟩ (fun w hS => placed_any w m) rfl rfl (fun _ => rfl)) ?_; rintro _ _ ⟨_, rfl, _, rfl⟩); rw [hr]); refine qt (T_not rfl) ?_; refine qp ?_; refine qp ?_; refine qt (T_load rfl rfl rfl rfl) ?_; refine qp ?_; refine qd ?_; refine qd ?_; refine qz ?_; refine qT ?_; refine qs ?_; refine qp ?_; refine qz ?_)
      exact hB _ _ _ _ _ rfl rfl fun w' hS => ⟨(), rfl, trivial, hS.sublist (List.nil_sublist _)⟩
    · focus (refine qs ?_; refine qd ?_; refine qz ?_; refine qq ?_; refine qT ?_; refine qx ?_; refine qq ?_; refine qb ?_; refine qs ?_; refine qt (T_ixM (sz := 3) rfl rfl rfl rfl rfl rfl hne hjl) ?_; refine qt (T_lda (ds := emc m) rfl rfl rfl (Srd.old h (fun k _ => noOwns k)) rfl (by omega) hat) ?_; (refine qe (E_alloca rfl em_zero) ?_; rintro _ _ ⟨b6, rfl, rfl⟩); (refine qw (E_storew (cs := emc (0, 0, none, 0, [])) (ds := emc m) rfl rfl rfl rfl (emc_one _) rfl) ?_; rintro _ _ rfl); refine qz ?_; refine qq ?_; refine qs ?_; refine qt (T_loads (ds := emc m) rfl rfl rfl rfl rfl) ?_; ((refine qe (E_hv0 (f := 129) ⟨_, Tryz.func129, rfl, by kernel_rfl⟩ (fun w hS => placed_any w m) rfl rfl (fun _ => rfl)) ?_; rintro _ _ ⟨_, rfl, _, rfl⟩); rw [hr]); refine qt (T_not rfl) ?_; refine qp ?_; refine qp ?_; refine qt (T_load rfl rfl rfl rfl) ?_; refine qp ?_; refine qf ?_; refine qp ?_; refine qz ?_; refine qF ?_; refine qx ?_; refine qr ?_; refine qp ?_; refine qt (T_load rfl rfl rfl rfl) ?_; refine qp ?_; refine qz ?_; refine RS_blk ?_; refine qr ?_; refine qt (T_addN rfl rfl (by unfold fits; omega)) ?_; refine qp ?_; refine qz ?_)
      exact hJ (j + 1, m.1) _ _ ⟨by show j + 1 ≤ _; omega, hnx rfl (by omega)⟩ (Sub.cons rfl (Sub.cons rfl (Sub.cons rfl (Sub.cons rfl Sub.nil)))) sub_st (by show Q.length - (j + 1) < _; omega)
  have hjn : j = Q.length := by omega
  subst hjn
  rw [List.take_length] at hok
  rw [hok] at hB
  focus (refine qs ?_; refine qf ?_; refine qz ?_; refine qq ?_; refine qF ?_; refine S_exit rfl rfl ?_; refine qs ?_; refine qp ?_; refine qz ?_)
  exact hB _ _ _ _ _ rfl rfl fun w' hS => ⟨(), rfl, trivial, hS.sublist (List.nil_sublist _)⟩
end Go.Proofs.YtdeffdldifepkaaGreat
namespace Go.Proofs.YtdeffdldifepkaaGreat
open Go.RowKit
open Asn (pt row rb)
set_option linter.unusedVariables false
set_option linter.unusedSimpArgs false
--@use N

def baseB (a : At) : Bool := decide (a = (0, 0)) || (decide (0 < a.1) && decide (0 < a.2))
theorem rightB_eq (a : At) (l : List En) : rightB a l = (baseB a && decide (l.length ≤ 16) && decide (a.1 ≤ 18446744073709551614 - l.length) && risingB l a.2) := rfl
theorem right_fits {a : At} {l : List En} (h : rightB a l = true) : l.length ≤ 16 ∧ a.1 + l.length ≤ 18446744073709551614 := by
  rw [rightB_eq, Bool.and_eq_true, Bool.and_eq_true, Bool.and_eq_true, decide_eq_true_eq, decide_eq_true_eq] at h
  omega
theorem lastT_at (Q : List Em) (t : Nat) (h : 0 < Q.length) : lastT (Q.map emv) t = (Q.getD (Q.length - 1) default).1 := by
  have e : Q = Q.take (Q.length - 1) ++ [Q.getD (Q.length - 1) default] := by
    have := List.take_succ_eq_append_getElem (l := Q) (i := Q.length - 1) (by omega)
    rw [show Q.length - 1 + 1 = Q.length by omega, List.take_length] at this
    simpa [List.getD, show Q.length - 1 < Q.length by omega] using this
  conv => lhs; rw [e]
  rw [List.map_append, lastT_app]
  rfl
set_option maxRecDepth 100000 in
set_option maxHeartbeats 4000000 in
theorem right_any (w : World) (a : At) (A : Option Addr) (c : Nat) (Q : List Em) (h : Rd w All 3 A Q.length (cellsL emc Q)) (hn : Q.length ≤ 100000) :
    Gives Tryz.prog 121 [.agg (lgc a A Q.length c).toArray] [] w (X := Unit) (fun _ => .bool (rightB a (Q.map emv))) (fun _ => True) (fun _ => []) := by
  refine gives_S Tryz.func121 rfl Tryz.ntmps121 Tryz.results121 (by simp) (St.enter w) (fun B hB => ?_)
  obtain ⟨i, t⟩ := a
  have hq : rightB (i, t) (Q.map emv) = (baseB (i, t) && decide (Q.length ≤ 16) && decide (i ≤ 18446744073709551614 - Q.length) && risingB (Q.map emv) t) := by rw [rightB_eq, List.length_map]
  rw [hq] at hB
  obtain ⟨r, hr⟩ : ∃ r, risingB (Q.map emv) t = r := ⟨_, rfl⟩
  rw [hr] at hB

  by_cases hz : (i, t) = ((0, 0) : At)
  · have hb : baseB (i, t) = true := by rw [baseB, decide_eq_true hz]; rfl
    have hz := decide_eq_true hz
    by_cases h16 : Q.length ≤ 16
    · by_cases hi : i ≤ 18446744073709551614 - Q.length
      · rw [hb, decide_eq_true h16, decide_eq_true hi, Bool.and_self, Bool.and_self, Bool.true_and] at hB
        focus (refine qs ?_; (refine qe (E_boxa (cs := lgc (i, t) A Q.length c) rfl) ?_; rintro _ _ ⟨b1, rfl, rfl⟩); refine qp ?_; refine qn ?_; refine qp ?_; refine qt (T_loads (ds := atc (i, t)) rfl rfl rfl rfl rfl) ?_; refine qt (T_build0 at_built0) ?_; refine qt (T_eqAt (a := (i, t)) (b := (0, 0)) rfl rfl hz) ?_; refine qp ?_; refine qn ?_; refine qp ?_; refine qp ?_; (iterate 10 refine qk ?_); refine qp ?_; refine qp ?_; refine qn ?_; (iterate 3 refine qp ?_); refine qt (T_load rfl rfl rfl rfl) ?_; refine qp ?_; refine qd ?_; (iterate 4 refine qp ?_); (iterate 2 refine qt (T_load rfl rfl rfl rfl) ?_; refine qp ?_); refine qt (T_convf rfl rfl rfl rfl (by unfold fits; omega)) ?_; refine qt (T_subN rfl rfl (by omega) (by unfold fits; omega)) ?_; refine qd ?_; (iterate 3 refine qp ?_); refine qt (T_load rfl rfl rfl rfl) ?_; refine qp ?_; refine qp ?_; refine qt (T_load rfl rfl rfl rfl) ?_; ((refine qe (E_hv0 (f := 167) ⟨_, Tryz.func167, rfl, by kernel_rfl⟩ (fun w hS => rising_any w A c Q t ((Srd.old h (fun k _ => noOwns k)).rd w hS) hn) rfl rfl (fun _ => rfl)) ?_; rintro _ _ ⟨_, rfl, _, rfl⟩); rw [hr]); refine qp ?_; refine qp ?_; refine qz ?_)
        exact hB _ _ _ _ _ rfl rfl fun w' hS => ⟨(), rfl, trivial, hS.sublist (List.nil_sublist _)⟩
      · rw [hb, decide_eq_true h16, decide_eq_false hi, Bool.and_false, Bool.false_and] at hB
        focus (refine qs ?_; (refine qe (E_boxa (cs := lgc (i, t) A Q.length c) rfl) ?_; rintro _ _ ⟨b1, rfl, rfl⟩); refine qp ?_; refine qn ?_; refine qp ?_; refine qt (T_loads (ds := atc (i, t)) rfl rfl rfl rfl rfl) ?_; refine qt (T_build0 at_built0) ?_; refine qt (T_eqAt (a := (i, t)) (b := (0, 0)) rfl rfl hz) ?_; refine qp ?_; refine qn ?_; refine qp ?_; refine qp ?_; (iterate 10 refine qk ?_); refine qp ?_; refine qp ?_; refine qn ?_; (iterate 3 refine qp ?_); refine qt (T_load rfl rfl rfl rfl) ?_; refine qp ?_; refine qd ?_; (iterate 4 refine qp ?_); (iterate 2 refine qt (T_load rfl rfl rfl rfl) ?_; refine qp ?_); refine qt (T_convf rfl rfl rfl rfl (by unfold fits; omega)) ?_; refine qt (T_subN rfl rfl (by omega) (by unfold fits; omega)) ?_; refine qf ?_; refine qp ?_; refine qp ?_; (iterate 6 refine qk ?_); refine qp ?_; refine qp ?_; refine qz ?_)
        exact hB _ _ _ _ _ rfl rfl fun w' hS => ⟨(), rfl, trivial, hS.sublist (List.nil_sublist _)⟩
    · rw [hb, decide_eq_false h16, Bool.and_false, Bool.false_and, Bool.false_and] at hB
      focus (refine qs ?_; (refine qe (E_boxa (cs := lgc (i, t) A Q.length c) rfl) ?_; rintro _ _ ⟨b1, rfl, rfl⟩); refine qp ?_; refine qn ?_; refine qp ?_; refine qt (T_loads (ds := atc (i, t)) rfl rfl rfl rfl rfl) ?_; refine qt (T_build0 at_built0) ?_; refine qt (T_eqAt (a := (i, t)) (b := (0, 0)) rfl rfl hz) ?_; refine qp ?_; refine qn ?_; refine qp ?_; refine qp ?_; (iterate 10 refine qk ?_); refine qp ?_; refine qp ?_; refine qn ?_; (iterate 3 refine qp ?_); refine qt (T_load rfl rfl rfl rfl) ?_; refine qp ?_; refine qf ?_; refine qp ?_; refine qp ?_; (iterate 9 refine qk ?_); refine qp ?_; refine qp ?_; (iterate 6 refine qk ?_); refine qp ?_; refine qp ?_; refine qz ?_)
      exact hB _ _ _ _ _ rfl rfl fun w' hS => ⟨(), rfl, trivial, hS.sublist (List.nil_sublist _)⟩
  have hz2 : baseB (i, t) = (decide (0 < i) && decide (0 < t)) := by rw [baseB, decide_eq_false hz]; rfl
  have hz := decide_eq_false hz
  by_cases hi0 : 0 < i
  · by_cases ht0 : 0 < t
    · have hb : baseB (i, t) = true := by rw [hz2, decide_eq_true hi0, decide_eq_true ht0]; rfl
      by_cases h16 : Q.length ≤ 16
      · by_cases hi : i ≤ 18446744073709551614 - Q.length
        · rw [hb, decide_eq_true h16, decide_eq_true hi, Bool.and_self, Bool.and_self, Bool.true_and] at hB
          focus (refine qs ?_; (refine qe (E_boxa (cs := lgc (i, t) A Q.length c) rfl) ?_; rintro _ _ ⟨b1, rfl, rfl⟩); refine qp ?_; refine qn ?_; refine qp ?_; refine qt (T_loads (ds := atc (i, t)) rfl rfl rfl rfl rfl) ?_; refine qt (T_build0 at_built0) ?_; refine qt (T_eqAt (a := (i, t)) (b := (0, 0)) rfl rfl hz) ?_; refine qp ?_; refine qn ?_; (iterate 4 refine qp ?_); (iterate 2 refine qt (T_load rfl rfl rfl rfl) ?_; refine qd ?_; (iterate 3 refine qp ?_)); refine qn ?_; (iterate 3 refine qp ?_); refine qt (T_load rfl rfl rfl rfl) ?_; refine qp ?_; refine qd ?_; (iterate 4 refine qp ?_); (iterate 2 refine qt (T_load rfl rfl rfl rfl) ?_; refine qp ?_); refine qt (T_convf rfl rfl rfl rfl (by unfold fits; omega)) ?_; refine qt (T_subN rfl rfl (by omega) (by unfold fits; omega)) ?_; refine qd ?_; (iterate 3 refine qp ?_); refine qt (T_load rfl rfl rfl rfl) ?_; refine qp ?_; refine qp ?_; refine qt (T_load rfl rfl rfl rfl) ?_; ((refine qe (E_hv0 (f := 167) ⟨_, Tryz.func167, rfl, by kernel_rfl⟩ (fun w hS => rising_any w A c Q t ((Srd.old h (fun k _ => noOwns k)).rd w hS) hn) rfl rfl (fun _ => rfl)) ?_; rintro _ _ ⟨_, rfl, _, rfl⟩); rw [hr]); refine qp ?_; refine qp ?_; refine qz ?_)
          exact hB _ _ _ _ _ rfl rfl fun w' hS => ⟨(), rfl, trivial, hS.sublist (List.nil_sublist _)⟩
        · rw [hb, decide_eq_true h16, decide_eq_false hi, Bool.and_false, Bool.false_and] at hB
          focus (refine qs ?_; (refine qe (E_boxa (cs := lgc (i, t) A Q.length c) rfl) ?_; rintro _ _ ⟨b1, rfl, rfl⟩); refine qp ?_; refine qn ?_; refine qp ?_; refine qt (T_loads (ds := atc (i, t)) rfl rfl rfl rfl rfl) ?_; refine qt (T_build0 at_built0) ?_; refine qt (T_eqAt (a := (i, t)) (b := (0, 0)) rfl rfl hz) ?_; refine qp ?_; refine qn ?_; (iterate 4 refine qp ?_); (iterate 2 refine qt (T_load rfl rfl rfl rfl) ?_; refine qd ?_; (iterate 3 refine qp ?_)); refine qn ?_; (iterate 3 refine qp ?_); refine qt (T_load rfl rfl rfl rfl) ?_; refine qp ?_; refine qd ?_; (iterate 4 refine qp ?_); (iterate 2 refine qt (T_load rfl rfl rfl rfl) ?_; refine qp ?_); refine qt (T_convf rfl rfl rfl rfl (by unfold fits; omega)) ?_; refine qt (T_subN rfl rfl (by omega) (by unfold fits; omega)) ?_; refine qf ?_; refine qp ?_; refine qp ?_; (iterate 6 refine qk ?_); refine qp ?_; refine qp ?_; refine qz ?_)
          exact hB _ _ _ _ _ rfl rfl fun w' hS => ⟨(), rfl, trivial, hS.sublist (List.nil_sublist _)⟩
      · rw [hb, decide_eq_false h16, Bool.and_false, Bool.false_and, Bool.false_and] at hB
        focus (refine qs ?_; (refine qe (E_boxa (cs := lgc (i, t) A Q.length c) rfl) ?_; rintro _ _ ⟨b1, rfl, rfl⟩); refine qp ?_; refine qn ?_; refine qp ?_; refine qt (T_loads (ds := atc (i, t)) rfl rfl rfl rfl rfl) ?_; refine qt (T_build0 at_built0) ?_; refine qt (T_eqAt (a := (i, t)) (b := (0, 0)) rfl rfl hz) ?_; refine qp ?_; refine qn ?_; (iterate 4 refine qp ?_); (iterate 2 refine qt (T_load rfl rfl rfl rfl) ?_; refine qd ?_; (iterate 3 refine qp ?_)); refine qn ?_; (iterate 3 refine qp ?_); refine qt (T_load rfl rfl rfl rfl) ?_; refine qp ?_; refine qf ?_; refine qp ?_; refine qp ?_; (iterate 9 refine qk ?_); refine qp ?_; refine qp ?_; (iterate 6 refine qk ?_); refine qp ?_; refine qp ?_; refine qz ?_)
        exact hB _ _ _ _ _ rfl rfl fun w' hS => ⟨(), rfl, trivial, hS.sublist (List.nil_sublist _)⟩
    · rw [hz2, decide_eq_true hi0, decide_eq_false ht0, Bool.and_false, Bool.false_and, Bool.false_and, Bool.false_and] at hB
      focus (refine qs ?_; (refine qe (E_boxa (cs := lgc (i, t) A Q.length c) rfl) ?_; rintro _ _ ⟨b1, rfl, rfl⟩); refine qp ?_; refine qn ?_; refine qp ?_; refine qt (T_loads (ds := atc (i, t)) rfl rfl rfl rfl rfl) ?_; refine qt (T_build0 at_built0) ?_; refine qt (T_eqAt (a := (i, t)) (b := (0, 0)) rfl rfl hz) ?_; refine qp ?_; refine qn ?_; (iterate 4 refine qp ?_); refine qt (T_load rfl rfl rfl rfl) ?_; refine qd ?_; (iterate 3 refine qp ?_); refine qt (T_load rfl rfl rfl rfl) ?_; refine qf ?_; (iterate 3 refine qp ?_); refine qn ?_; (iterate 2 refine qp ?_; refine qp ?_; (iterate 4 refine qk ?_)); (iterate 5 refine qk ?_); refine qp ?_; refine qp ?_; (iterate 6 refine qk ?_); refine qp ?_; refine qp ?_; refine qz ?_)
      exact hB _ _ _ _ _ rfl rfl fun w' hS => ⟨(), rfl, trivial, hS.sublist (List.nil_sublist _)⟩
  · rw [hz2, decide_eq_false hi0, Bool.false_and, Bool.false_and, Bool.false_and, Bool.false_and] at hB
    focus (refine qs ?_; (refine qe (E_boxa (cs := lgc (i, t) A Q.length c) rfl) ?_; rintro _ _ ⟨b1, rfl, rfl⟩); refine qp ?_; refine qn ?_; refine qp ?_; refine qt (T_loads (ds := atc (i, t)) rfl rfl rfl rfl rfl) ?_; refine qt (T_build0 at_built0) ?_; refine qt (T_eqAt (a := (i, t)) (b := (0, 0)) rfl rfl hz) ?_; refine qp ?_; refine qn ?_; (iterate 4 refine qp ?_); refine qt (T_load rfl rfl rfl rfl) ?_; refine qf ?_; refine qp ?_; (iterate 4 refine qk ?_); (iterate 3 refine qp ?_); refine qn ?_; (iterate 2 refine qp ?_; refine qp ?_; (iterate 4 refine qk ?_)); (iterate 5 refine qk ?_); refine qp ?_; refine qp ?_; (iterate 6 refine qk ?_); refine qp ?_; refine qp ?_; refine qz ?_)
    exact hB _ _ _ _ _ rfl rfl fun w' hS => ⟨(), rfl, trivial, hS.sublist (List.nil_sublist _)⟩
set_option maxRecDepth 100000 in
set_option maxHeartbeats 4000000 in
theorem last_any (w : World) (a : At) (A : Option Addr) (c : Nat) (Q : List Em) (h : Rd w All 3 A Q.length (cellsL emc Q)) (hn : Q.length ≤ 100000) (hf : a.1 + Q.length ≤ 18446744073709551615) :
    Gives Tryz.prog 124 [.agg (lgc a A Q.length c).toArray] [] w (X := Unit) (fun _ => .agg (atc (lastA a (Q.map emv))).toArray) (fun _ => True) (fun _ => []) := by
  refine gives_C Tryz.func124 rfl Tryz.ntmps124 Tryz.results124 (by simp) (St.enter w) (fun B hB => ?_)
  obtain ⟨i, t⟩ := a
  have hf : i + Q.length ≤ 18446744073709551615 := hf
  have hl : lastA (i, t) (Q.map emv) = (i + Q.length, lastT (Q.map emv) t) := by rw [lastA, List.length_map]
  rw [hl] at hB
  have hne : 0 < Q.length → A ≠ none := fun h0 => by obtain ⟨ad, rfl, _⟩ := h.2 (by omega); simp
  by_cases h0 : Q.length = 0
  · have e1 : lastT (Q.map emv) t = t := by rw [List.eq_nil_of_length_eq_zero h0]; rfl
    rw [e1, h0, Nat.add_zero] at hB
    focus (refine qs ?_; (refine qe (E_boxa (cs := lgc (i, t) A Q.length c) rfl) ?_; rintro _ _ ⟨b1, rfl, rfl⟩); (refine qe (E_alloca rfl at_zero) ?_; rintro _ _ ⟨b2, rfl, rfl⟩); refine qn ?_; refine qp ?_; refine qt (T_load rfl rfl rfl rfl) ?_; refine qp ?_; refine qp ?_; refine qz ?_; refine qq ?_; refine qs ?_; refine qp ?_; refine qd ?_; refine qz ?_; refine qT ?_; refine qs ?_; refine qp ?_; refine qt (T_loads (ds := atc (i, t)) rfl rfl rfl rfl rfl) ?_; (refine qw (E_storew (cs := atc (0, 0)) (ds := atc (i, t)) rfl rfl rfl rfl (atc_one _) rfl) ?_; rintro _ _ rfl); refine qz ?_)
    refine hB _ _ _ _ _ rfl (.cell rfl rfl rfl inferInstance rfl .nil) fun w' hS => ⟨(), rfl, trivial, hS.sublist (List.nil_sublist _)⟩
  · have hne := hne (by omega)
    have e1 := lastT_at Q t (by omega)
    have hat := cellsL_at (f := emc) emc_len Q default (Q.length - 1) (by omega)
    have hlt : Q.length - 1 < Q.length := by omega
    obtain ⟨m, hm⟩ : ∃ m, Q.getD (Q.length - 1) default = m := ⟨_, rfl⟩
    rw [hm] at hat e1
    rw [e1] at hB
    have hat0 : (cellsL emc Q)[(Q.length - 1) * 3 + 0]? = some (.int .u64 (m.1 : Int)) := hat 0 _ rfl
    focus (refine qs ?_; (refine qe (E_boxa (cs := lgc (i, t) A Q.length c) rfl) ?_; rintro _ _ ⟨b1, rfl, rfl⟩); (refine qe (E_alloca rfl at_zero) ?_; rintro _ _ ⟨b2, rfl, rfl⟩); refine qn ?_; refine qp ?_; refine qt (T_load rfl rfl rfl rfl) ?_; refine qp ?_; refine qp ?_; refine qz ?_; refine qq ?_; refine qs ?_; refine qp ?_; refine qf ?_; refine qz ?_; refine qF ?_; refine qx ?_; refine qq ?_)
    refine S_draw ([pt b1 39 (lgc (i, t) A Q.length c)]) sub_st (by kernel_rfl) rfl (by kernel_rfl) (by kernel_rfl : _ = 15) ?_
    refine dt 0 rfl (pev_ok rfl) ?_
    refine dt 1 rfl (pev_ok rfl) ?_
    refine dt 2 rfl (T_load rfl rfl rfl rfl) ?_
    refine dt 3 rfl (pev_ok rfl) ?_
    (refine dt 4 rfl (T_convf rfl rfl rfl rfl (by unfold fits; omega)) ?_)
    (refine dt 5 rfl (T_addN rfl rfl (by unfold fits; omega)) ?_)
    refine dt 6 rfl (pev_ok rfl) ?_
    refine dt 7 rfl (T_load rfl rfl rfl rfl) ?_
    refine dt 8 rfl (pev_ok rfl) ?_
    (refine dt 9 rfl (T_subN rfl rfl (by omega) (by unfold fits; omega)) ?_)
    refine dt 10 rfl (T_ixM (sz := 3) (q := Q.length - 1) rfl rfl rfl rfl rfl rfl hne hlt) ?_
    refine dt 11 rfl (T_fap rfl rfl rfl rfl rfl hne) ?_
    refine dt 12 rfl (T_ldr rfl rfl rfl (Srd.old h (fun k _ => noOwns k)) (by omega) hat0) ?_
    refine dt 13 rfl (T_build2 rfl rfl (at_built2 (i + Q.length) m.1)) ?_
    refine D_one 14 rfl (E_storew (cs := atc (0, 0)) (ds := atc (i + Q.length, m.1)) rfl rfl rfl rfl (atc_one _) rfl) ?_ rfl rfl (by kernel_rfl)
    rintro _ _ rfl
    refine Nx_same sub_st ?_
    refine D_done ?_ (by kernel_rfl)
    skip
    skip
    refine hB _ _ _ _ _ rfl (.cell rfl rfl rfl inferInstance rfl .nil) fun w' hS => ⟨(), rfl, trivial, hS.sublist (List.nil_sublist _)⟩
set_option maxRecDepth 100000 in
set_option maxHeartbeats 4000000 in
theorem lastF_any (w : World) (a : At) (A : Option Addr) (c : Nat) (Q : List Em) (h : Rd w All 3 A Q.length (cellsL emc Q)) (hn : Q.length ≤ 100000) :
    Gives Tryz.prog 50 [.agg (lgc a A Q.length c).toArray] [] w (X := Unit) (fun _ => .agg (atc (if rightB a (Q.map emv) then lastA a (Q.map emv) else (0, 0))).toArray) (fun _ => True) (fun _ => []) := by
  refine gives_C Tryz.func50 rfl Tryz.ntmps50 Tryz.results50 (by simp) (St.enter w) (fun B hB => ?_)
  obtain ⟨i, t⟩ := a
  obtain ⟨r, hr⟩ : ∃ r, rightB (i, t) (Q.map emv) = r := ⟨_, rfl⟩
  rw [hr] at hB
  cases r
  · focus (refine qs ?_; (refine qe (E_boxa (cs := lgc (i, t) A Q.length c) rfl) ?_; rintro _ _ ⟨b1, rfl, rfl⟩); (refine qe (E_alloca rfl at_zero) ?_; rintro _ _ ⟨b2, rfl, rfl⟩); refine qz ?_; refine qq ?_; refine qs ?_; refine qt (T_loads (ds := lgc (i, t) A Q.length c) rfl rfl rfl rfl rfl) ?_; ((refine qe (E_hv0 (f := 121) ⟨_, Tryz.func121, rfl, by kernel_rfl⟩ (fun w hS => right_any w (i, t) A c Q ((Srd.old h (fun k _ => noOwns k)).rd w hS) hn) rfl rfl (fun _ => rfl)) ?_; rintro _ _ ⟨_, rfl, _, rfl⟩); rw [hr]); refine qt (T_not rfl) ?_; refine qz ?_; refine qT ?_; refine qs ?_; refine qt (T_build0 at_built0) ?_; (refine qw (E_storew (cs := atc (0, 0)) (ds := atc (0, 0)) rfl rfl rfl rfl (atc_one _) rfl) ?_; rintro _ _ rfl); refine qz ?_)
    refine hB _ _ _ _ _ rfl (.cell rfl rfl rfl inferInstance rfl .nil) fun w' hS => ⟨(), rfl, trivial, hS.sublist (List.nil_sublist _)⟩
  · have hff := right_fits hr
    rw [List.length_map] at hff
    focus (refine qs ?_; (refine qe (E_boxa (cs := lgc (i, t) A Q.length c) rfl) ?_; rintro _ _ ⟨b1, rfl, rfl⟩); (refine qe (E_alloca rfl at_zero) ?_; rintro _ _ ⟨b2, rfl, rfl⟩); refine qz ?_; refine qq ?_; refine qs ?_; refine qt (T_loads (ds := lgc (i, t) A Q.length c) rfl rfl rfl rfl rfl) ?_; ((refine qe (E_hv0 (f := 121) ⟨_, Tryz.func121, rfl, by kernel_rfl⟩ (fun w hS => right_any w (i, t) A c Q ((Srd.old h (fun k _ => noOwns k)).rd w hS) hn) rfl rfl (fun _ => rfl)) ?_; rintro _ _ ⟨_, rfl, _, rfl⟩); rw [hr]); refine qt (T_not rfl) ?_; refine qz ?_; refine qF ?_; refine qx ?_; refine qs ?_; refine qt (T_loads (ds := lgc (i, t) A Q.length c) rfl rfl rfl rfl rfl) ?_; (refine qe (E_hv0 (f := 124) ⟨_, Tryz.func124, rfl, by kernel_rfl⟩ (fun w hS => last_any w (i, t) A c Q ((Srd.old h (fun k _ => noOwns k)).rd w hS) hn (by show i + _ ≤ _; omega)) rfl rfl (fun _ => rfl)) ?_; rintro _ _ ⟨_, rfl, _, rfl⟩); (refine qw (E_storew (cs := atc (0, 0)) (ds := atc (lastA (i, t) (Q.map emv))) rfl rfl rfl rfl (atc_one _) rfl) ?_; rintro _ _ rfl); refine qz ?_)
    refine hB _ _ _ _ _ rfl (.cell rfl rfl rfl inferInstance rfl .nil) fun w' hS => ⟨(), rfl, trivial, hS.sublist (List.nil_sublist _)⟩
end Go.Proofs.YtdeffdldifepkaaGreat
namespace Go.Proofs.YtdeffdldifepkaaGreat
open Go.RowKit
open Asn (pt row rb)
set_option linter.unusedVariables false
set_option linter.unusedSimpArgs false
--@use N

/-- the j-th place of a log; of 0 its base -/
def placeN (a : At) (l : List En) (j : Nat) : At := if j = 0 then a else (a.1 + j, (l.getD (j - 1) default).1)
def plcs (a : At) (l : List En) : List (List Value) := (List.range (l.length + 1)).map fun (j : Nat) => [.int .i64 (j : Int), .agg (atc (placeN a l j)).toArray]
theorem plcs_len (a : At) (l : List En) : (plcs a l).length = l.length + 1 := by simp [plcs]
theorem plcs_at (a : At) (l : List En) (j : Nat) (hj : j < l.length + 1) : (plcs a l).getD j [] = [.int .i64 (j : Int), .agg (atc (placeN a l j)).toArray] := by simp [plcs, List.getD, hj]
theorem placeN_at (a : At) (Q : List Em) (j : Nat) (hj : j < Q.length) {m : Em} (hm : Q.getD j default = m) : placeN a (Q.map emv) (j + 1) = (a.1 + (j + 1), m.1) := by
  subst hm
  unfold placeN
  rw [if_neg (by omega), Nat.add_sub_cancel]
  simp [List.getD, hj, emv]
set_option maxRecDepth 100000 in
set_option maxHeartbeats 4000000 in
theorem places_any (w : World) (a : At) (A : Option Addr) (n c : Nat) :
    Gives Tryz.prog 122 [.agg (lgc a A n c).toArray] [] w (X := Nat) (fun b => .func (.func 168) #[] [Value.pointer (some ⟨b, 0, none⟩)].toArray) (fun _ => True) (fun b => [pt b 39 (lgc a A n c)]) := by
  refine gives_S Tryz.func122 rfl Tryz.ntmps122 Tryz.results122 (by simp) (St.enter w) (fun B hB => ?_)
  focus (refine qs ?_; (refine qe (E_boxa (cs := lgc a A n c) rfl) ?_; rintro _ _ ⟨b, rfl, rfl⟩); refine qp ?_; refine qn ?_; refine qt (T_func rfl rfl) ?_; refine qp ?_; refine qz ?_)
  exact hB _ _ _ _ _ rfl rfl fun w' hS => ⟨b, rfl, trivial, hS⟩
set_option maxRecDepth 100000 in
set_option maxHeartbeats 4000000 in
theorem places_iter (w : World) (F : Nat → Prop) (b : Nat) (a : At) (A : Option Addr) (c : Nat) (Q : List Em) (hb : Rd w F 1 (some ⟨b, 0, none⟩) 3 (lgc a A Q.length c)) (h : Rd w F 3 A Q.length (cellsL emc Q)) (hn : Q.length ≤ 100000) (hf : a.1 + Q.length ≤ 18446744073709551615) :
    Iter Tryz.prog 168 [.pointer (some ⟨b, 0, none⟩)] F (plcs a (Q.map emv)) w := by
  intro l X Z I S x0 h0 hS hFM hy
  refine gives_N2 Tryz.func168 rfl Tryz.ntmps168 Tryz.results168 (by simp) hS (fun B hE hB => ?_)
  have hlen : (plcs a (Q.map emv)).length = Q.length + 1 := by rw [plcs_len, List.length_map]
  have hget := fun j (hj : j < Q.length + 1) => plcs_at a (Q.map emv) j (by rw [List.length_map]; exact hj)
  have hpl := fun j hj m hm => placeN_at a Q j hj (m := m) hm
  rw [hlen] at hE hB hy
  have hp0 : placeN a (Q.map emv) 0 = a := rfl
  have hne : 0 < Q.length → A ≠ none := fun h0 => by obtain ⟨ad, rfl, _⟩ := h.2 (by omega); simp
  have hy0 := hy 0 x0
  rw [hget 0 (by omega), hp0] at hy0
  obtain ⟨i, t⟩ := a
  have hf : i + Q.length ≤ 18446744073709551615 := hf
  focus (refine qq ?_; refine qs ?_; refine qp ?_; refine qp ?_; refine qt (T_loadgs (F := F) (m := 3) (sz := 1) (xs := lgc (i, t) A Q.length c) (ds := atc (i, t)) rfl rfl rfl hb hFM rfl (by decide) rfl) ?_; (refine qe (E_yield (A := Z x0) (Z := Z) (I1 := I 1) (S1 := S 0) (fun w' hS => hy0 w' h0 (by omega) (hS.sublist (by simp))) rfl rfl rfl) ?_; rintro _ _ ⟨y, bb, rfl, hy1, hy2, rfl⟩; cases bb); refine qt (T_not rfl) ?_; refine qz ?_; refine qT ?_; rotate_left; refine qt (T_not rfl) ?_; refine qz ?_; refine qF ?_; refine qx ?_; refine qs ?_; refine qp ?_; refine qt (T_loadg rfl rfl rfl hb hFM rfl) ?_; refine qp ?_; refine qp ?_; refine qz ?_; refine qb ?_; rotate_left)
  · skip
    exact hB _ _ _ _ rfl fun w' hS => ⟨(y, some 0), ⟨by omega, hy2 rfl⟩, sub_st _ hS⟩
  have hy1 := hy1 rfl
  skip
  refine S_loop (X := Nat × X) (fun x => [(0, .func (.yield l) #[] #[]), (1, .pointer (some ⟨b, 0, none⟩)), (11, .slice A Q.length c), (12, .int .i64 (Q.length : Int)), (13, .int .i64 (x.1 : Int))]) (fun x => [Z x.2]) (fun x => x.1 ≤ Q.length ∧ I (x.1 + 1) x.2) (fun x => Q.length - x.1) rfl (0, y) ⟨Nat.zero_le _, hy1⟩ (Sub.cons rfl (Sub.cons rfl (Sub.cons rfl (Sub.cons rfl (Sub.cons rfl Sub.nil))))) sub_st ?_
  rintro ⟨j, x⟩ ⟨hj, hI⟩ J hJ
  dsimp only at hj hI ⊢
  rcases Nat.lt_or_ge j Q.length with hjl | hjl
  · have hne := hne (by omega)
    have hat := cellsL_at (f := emc) emc_len Q default j hjl
    obtain ⟨m, hm⟩ : ∃ m, Q.getD j default = m := ⟨_, rfl⟩
    rw [hm] at hat
    have hyj := hy (j + 1) x
    rw [hget (j + 1) (by omega), hpl j hjl m hm] at hyj
    focus (refine qs ?_; refine qd ?_; refine qz ?_; refine qq ?_; refine qT ?_; refine qx ?_; refine qq ?_; refine qb ?_; refine qs ?_; refine qp ?_; refine qt (T_ixM (sz := 3) rfl rfl rfl rfl rfl rfl hne hjl) ?_; refine qt (T_lda (ds := emc m) rfl rfl rfl (Srd.old h hFM) rfl (by omega) hat) ?_; (refine qe (E_alloca rfl em_zero) ?_; rintro _ _ ⟨b4, rfl, rfl⟩); refine qp ?_; (refine qw (E_storew (cs := emc (0, 0, none, 0, [])) (ds := emc m) rfl rfl rfl rfl (emc_one _) rfl) ?_; rintro _ _ rfl); refine qn ?_; refine qp ?_; refine qp ?_; refine qt (T_addN rfl rfl (by unfold fits; omega)) ?_; refine qp ?_; refine qp ?_; refine qt (T_loadg rfl rfl rfl hb hFM rfl) ?_; refine qp ?_; refine qt (T_convf rfl rfl rfl rfl (by unfold fits; omega)) ?_; (iterate 2 refine qt (T_addN rfl rfl (by unfold fits; omega)) ?_); refine qp ?_; refine qt (T_load rfl rfl rfl rfl) ?_; refine qt (T_build2 rfl rfl (at_built2 (i + j + 1) m.1)) ?_; (refine qe (E_yield (A := Z x) (Z := Z) (I1 := I (j + 1 + 1)) (S1 := S (j + 1)) (fun w' hS => hyj w' hI (by omega) (hS.sublist (by simp))) rfl rfl rfl) ?_; rintro _ _ ⟨y, bb, rfl, hy1, hy2, rfl⟩; cases bb); refine qt (T_not rfl) ?_; refine qz ?_; refine qT ?_; rotate_left; refine qt (T_not rfl) ?_; refine qz ?_; refine qF ?_; refine qx ?_; refine RS_blk ?_; refine qr ?_; refine qt (T_addN rfl rfl (by unfold fits; omega)) ?_; refine qp ?_; refine qz ?_; rotate_left)
    · skip
      exact hB _ _ _ _ rfl fun w' hS => ⟨(y, some (j + 1)), ⟨by omega, hy2 rfl⟩, sub_st _ hS⟩
    · skip
      exact hJ (j + 1, y) _ _ ⟨by show j + 1 ≤ _; omega, hy1 rfl⟩ (Sub.cons rfl (Sub.cons rfl (Sub.cons rfl (Sub.cons rfl (Sub.cons rfl Sub.nil))))) sub_st (by dsimp only; omega)
  have hjn : j = Q.length := by omega
  subst hjn
  focus (refine qs ?_; refine qf ?_; refine qz ?_; refine qq ?_; refine qF ?_; refine S_exit rfl rfl ?_)
  first
    | exact hE _ _ fun w' hS => ⟨(x, none), hI, sub_st _ hS⟩
    | exact hB _ _ _ _ rfl fun w' hS => ⟨(x, none), hI, sub_st _ hS⟩
end Go.Proofs.YtdeffdldifepkaaGreat
namespace Go.Proofs.YtdeffdldifepkaaGreat
open Go.RowKit
open Asn (pt row rb)
set_option linter.unusedVariables false
set_option linter.unusedSimpArgs false
--@use N

/-- the place of an index, and its number -/
def findR (a : At) (l : List En) (idx : Nat) : Int × At := if a.1 ≤ idx ∧ idx ≤ a.1 + l.length then ((idx - a.1 : Nat), placeN a l (idx - a.1)) else (-1, (0, 0))
theorem placeN_fst (a : At) (l : List En) (j : Nat) : (placeN a l j).1 = a.1 + j := by
  unfold placeN
  split
  · rename_i h; rw [h]; rfl
  · rfl
theorem findR_hit {a : At} {l : List En} {idx j : Nat} (hj : j < l.length + 1) (h : (placeN a l j).1 = idx) : findR a l idx = ((j : Int), placeN a l j) := by
  rw [placeN_fst] at h
  unfold findR
  rw [if_pos ⟨by omega, by omega⟩, show idx - a.1 = j by omega]
theorem findR_not {a : At} {l : List En} {idx : Nat} (h : ∀ j, j < l.length + 1 → (placeN a l j).1 ≠ idx) : findR a l idx = (-1, (0, 0)) := by
  unfold findR
  refine if_neg fun ⟨h1, h2⟩ => ?_
  have := h (idx - a.1) (by omega)
  rw [placeN_fst] at this
  omega
set_option maxRecDepth 100000 in
set_option maxHeartbeats 4000000 in
theorem find_any (w : World) (a : At) (A : Option Addr) (c : Nat) (Q : List Em) (h : Rd w All 3 A Q.length (cellsL emc Q)) (hn : Q.length ≤ 100000) (hf : a.1 + Q.length ≤ 18446744073709551615) (idx : Nat) :
    Gives Tryz.prog 125 [.agg (lgc a A Q.length c).toArray, .int .u64 (idx : Int)] [] w (X := Unit) (fun _ => .tuple #[zi (findR a (Q.map emv) idx).1, .agg (atc (findR a (Q.map emv) idx).2).toArray]) (fun _ => True) (fun _ => []) := by
  refine gives_M Tryz.func125 rfl Tryz.ntmps125 Tryz.results125 (by simp) (St.enter w) (fun B hB0 hB => ?_)
  obtain ⟨i, t⟩ := a
  obtain ⟨l, hl⟩ : ∃ l, Q.map emv = l := ⟨_, rfl⟩
  have hll : l.length = Q.length := by rw [← hl, List.length_map]
  focus (refine qs ?_; (refine qe (E_boxa (cs := lgc (i, t) A Q.length c) rfl) ?_; rintro _ _ ⟨b2, rfl, rfl⟩); (refine qe (E_box1 (v := .int .u64 (idx : Int)) rfl rfl) ?_; rintro _ _ ⟨b3, rfl, rfl⟩); (refine qe (E_alloc1 (v := .int .i64 0) rfl rfl rfl) ?_; rintro _ _ ⟨b4, rfl, rfl⟩); (refine qe (E_alloca rfl at_zero) ?_; rintro _ _ ⟨b5, rfl, rfl⟩); refine qz ?_; refine qq ?_; refine qs ?_; refine qt (T_loads (ds := lgc (i, t) A Q.length c) rfl rfl rfl rfl rfl) ?_; (refine qe (E_hv1 (f := 122) ⟨_, Tryz.func122, rfl, by kernel_rfl⟩ (fun w hS => places_any w (i, t) A Q.length c) rfl rfl (fun _ => rfl)) ?_; rintro _ _ ⟨bI, rfl, _, rfl⟩); refine qz ?_; refine qb ?_)
  refine S_range (F := fun k => k < w.heap.size ∨ k = bI) (es := plcs (i, t) l) (ps := [10, 11]) (X := Int × At) (fun x => [pt b4 3 [.int .i64 x.1], pt b5 36 (atc x.2)]) (fun j x => x = (0, (0, 0)) ∧ ∀ q, q < j → (placeN (i, t) l q).1 ≠ idx) (fun j x => x = ((j : Int), placeN (i, t) l j) ∧ (placeN (i, t) l j).1 = idx) (0, (0, 0)) [pt bI 39 (lgc (i, t) A Q.length c), pt b3 34 [.int .u64 (idx : Int)]] rfl rfl ⟨_, Tryz.func168, rfl, by kernel_rfl⟩ (by kernel_rfl) (fun e he => ?_) ⟨rfl, fun q hq => absurd hq (Nat.not_lt_zero _)⟩ (fun w' hS => sub_st (H' := [pt b4 3 [.int .i64 0], pt b5 36 (atc (0, 0)), pt bI 39 (lgc (i, t) A Q.length c), pt b3 34 [.int .u64 (idx : Int)]]) w' hS) (fun w' hS => ?_) (fun w' hS => reads_ok (b := bI) (Hk := [pt bI 39 (lgc (i, t) A Q.length c), pt b3 34 [.int .u64 (idx : Int)]]) hS) (fun j x w' hx hj hS => ?_) (fun y D hy => ?_) (fun y D j hj hy => ?_)
  · obtain ⟨j, _, rfl⟩ := List.mem_map.1 he
    rfl
  · rw [← hl]
    exact places_iter w' _ bI (i, t) A c Q (rd_blk (b := bI) hS rfl (.inr rfl)) (rd_old h (by decide) (fun k => noOwns k) hS (fun k hk => .inl hk)) hn hf
  · rw [plcs_len] at hj
    obtain ⟨rfl, hno⟩ := hx
    rw [plcs_at _ _ _ hj]
    obtain ⟨p, hp⟩ : ∃ p, placeN (i, t) l j = p := ⟨_, rfl⟩
    rw [hp]
    intro l2 rA rB B0 B1 J hfull hbeg hend hret
    have hC3 := rd_kept (b := b3) hfull rfl
    obtain ⟨pi, pu⟩ := p
    focus (refine qs ?_; refine qp ?_; refine qz ?_; refine qr ?_; (refine qe (E_alloca rfl at_zero) ?_; rintro _ _ ⟨b7, rfl, rfl⟩); (refine qw (E_storew (cs := atc (0, 0)) (ds := atc (pi, pu)) rfl rfl rfl rfl (atc_one _) rfl) ?_; rintro _ _ rfl); refine qz ?_)
    refine hbeg _ [pt b7 36 (atc (pi, pu)), pt b4 3 [.int .i64 0], pt b5 36 (atc (0, 0))] _ ?_ sub_st
    by_cases hpi : pi = idx
    · focus (refine qb ?_; refine qs ?_; refine qp ?_; refine qt (T_load rfl rfl rfl rfl) ?_; refine qt (T_loadg rfl rfl rfl hC3 (fun k hk => hk) rfl) ?_; refine qd ?_; refine qz ?_; refine qT ?_; refine qq ?_)
      refine S_drawR ([pt b7 36 (atc (pi, pu))]) sub_st (by kernel_rfl) rfl (by kernel_rfl) (by kernel_rfl) (by kernel_rfl : _ = 4) ?_
      refine dt 0 rfl (pev_ok rfl) ?_
      refine dt 1 rfl (T_loads (ds := atc (pi, pu)) rfl rfl rfl rfl rfl) ?_
      refine D_one 2 rfl (E_store1 rfl rfl rfl rfl rfl rfl (by first | (simp; done) | (simp; omega) | decide)) ?_ rfl rfl (by kernel_rfl)
      rintro _ _ rfl
      refine Nx_same sub_st ?_
      refine D_one 3 rfl (E_storew (cs := atc (0, 0)) (ds := atc (pi, pu)) rfl rfl rfl rfl (atc_one _) rfl) ?_ rfl rfl (by kernel_rfl)
      rintro _ _ rfl
      refine Nx_same sub_st ?_
      refine D_done ?_ (by kernel_rfl)
      skip
      skip
      refine hret ((j : Int), (pi, pu)) _ _ _ _ ⟨rfl, hpi⟩ rfl fun w' hS => ?_
      simp only [Nat.add_zero, List.set_cons_zero] at hS
      exact sub_st _ hS
    · focus (refine qb ?_; refine qs ?_; refine qp ?_; refine qt (T_load rfl rfl rfl rfl) ?_; refine qt (T_loadg rfl rfl rfl hC3 (fun k hk => hk) rfl) ?_; refine qf ?_; refine qz ?_; refine qF ?_; refine qx ?_; refine RS_blk ?_)
      refine hend (0, (0, 0)) _ _ ⟨rfl, fun q hq => ?_⟩ sub_st
      rcases Nat.lt_or_ge q j with h3 | h3
      · exact hno q h3
      · rw [show q = j by omega, hp]; exact hpi
  · obtain ⟨rfl, hno⟩ := hy
    rw [plcs_len] at hno
    have hR := findR_not hno
    rw [hl, hR] at hB
    simp only [List.cons_append, List.nil_append]
    focus (refine RS_blk ?_; refine qs ?_; refine qt (T_build0 at_built0) ?_; (refine qw (E_store1 rfl rfl rfl rfl rfl rfl (by first | (simp; done) | (simp; omega) | decide)) ?_; rintro _ _ rfl); (refine qw (E_storew (cs := atc (0, 0)) (ds := atc (0, 0)) rfl rfl rfl rfl (atc_one _) rfl) ?_; rintro _ _ rfl); refine qz ?_)
    simp only [Nat.add_zero, List.set_cons_zero]
    refine hB _ _ _ _ _ _ _ rfl inferInstance (.cell1 rfl rfl rfl inferInstance (.cell rfl rfl rfl inferInstance rfl .nil)) fun w' hS => ⟨(), rfl, trivial, hS.sublist (List.nil_sublist _)⟩
  · obtain ⟨rfl, hno⟩ := hy
    rw [plcs_len] at hj
    have hR := findR_hit hj hno
    rw [hl, hR] at hB
    simp only [List.cons_append, List.nil_append]
    refine hB _ _ _ _ _ _ _ rfl inferInstance (.cell1 rfl rfl rfl inferInstance (.cell rfl rfl rfl inferInstance rfl .nil)) fun w' hS => ⟨(), rfl, trivial, hS.sublist (List.nil_sublist _)⟩
end Go.Proofs.YtdeffdldifepkaaGreat
namespace Go.Proofs.YtdeffdldifepkaaGreat
open Go.RowKit
open Asn (pt row rb)
set_option linter.unusedVariables false
set_option linter.unusedSimpArgs false
--@use N

def hasB (a : At) (l : List En) (p : At) : Bool := decide (0 ≤ (findR a l p.1).1) && decide ((findR a l p.1).2 = p)
set_option maxRecDepth 100000 in
set_option maxHeartbeats 4000000 in
theorem has_any (w : World) (a : At) (A : Option Addr) (c : Nat) (Q : List Em) (h : Rd w All 3 A Q.length (cellsL emc Q)) (hn : Q.length ≤ 100000) (hf : a.1 + Q.length ≤ 18446744073709551615) (p : At) :
    Gives Tryz.prog 162 [.agg (lgc a A Q.length c).toArray, .agg (atc p).toArray] [] w (X := Unit) (fun _ => .bool (hasB a (Q.map emv) p)) (fun _ => True) (fun _ => []) := by
  refine gives_S Tryz.func162 rfl Tryz.ntmps162 Tryz.results162 (by simp) (St.enter w) (fun B hB => ?_)
  obtain ⟨⟨k, q⟩, hR⟩ : ∃ x, findR a (Q.map emv) p.1 = x := ⟨_, rfl⟩
  obtain ⟨r, hr⟩ : ∃ r, decide (q = p) = r := ⟨_, rfl⟩
  have hq : hasB a (Q.map emv) p = (decide (0 ≤ k) && r) := by rw [hasB, hR, ← hr]
  rw [hq] at hB
  obtain ⟨pi, pu⟩ := p
  by_cases hk : 0 ≤ k
  · rw [decide_eq_true hk, Bool.true_and] at hB
    focus (refine qs ?_; (refine qe (E_boxa (cs := lgc a A Q.length c) rfl) ?_; rintro _ _ ⟨b2, rfl, rfl⟩); (refine qe (E_boxa (cs := atc (pi, pu)) rfl) ?_; rintro _ _ ⟨b3, rfl, rfl⟩); refine qp ?_; refine qn ?_; refine qt (T_loads (ds := lgc a A Q.length c) rfl rfl rfl rfl rfl) ?_; refine qp ?_; refine qt (T_load rfl rfl rfl rfl) ?_; ((refine qe (E_hv0 (f := 125) ⟨_, Tryz.func125, rfl, by kernel_rfl⟩ (fun w hS => find_any w a A c Q ((Srd.old h (fun k _ => noOwns k)).rd w hS) hn hf pi) rfl rfl (fun _ => rfl)) ?_; rintro _ _ ⟨_, rfl, _, rfl⟩); rw [hR]); (iterate 3 refine qp ?_); (refine qe (E_alloca rfl at_zero) ?_; rintro _ _ ⟨b6, rfl, rfl⟩); refine qp ?_; (refine qw (E_storew (cs := atc (0, 0)) (ds := atc q) rfl rfl rfl rfl (atc_one _) rfl) ?_; rintro _ _ rfl); refine qn ?_; refine qp ?_; refine qd ?_; refine qd ?_; refine qt (T_loads (ds := atc q) rfl rfl rfl rfl rfl) ?_; refine qt (T_loads (ds := atc (pi, pu)) rfl rfl rfl rfl rfl) ?_; refine qt (T_eqAt (a := q) (b := (pi, pu)) rfl rfl hr) ?_; refine qp ?_; refine qp ?_; refine qz ?_)
    exact hB _ _ _ _ _ rfl rfl fun w' hS => ⟨(), rfl, trivial, hS.sublist (List.nil_sublist _)⟩
  · rw [decide_eq_false hk, Bool.false_and] at hB
    focus (refine qs ?_; (refine qe (E_boxa (cs := lgc a A Q.length c) rfl) ?_; rintro _ _ ⟨b2, rfl, rfl⟩); (refine qe (E_boxa (cs := atc (pi, pu)) rfl) ?_; rintro _ _ ⟨b3, rfl, rfl⟩); refine qp ?_; refine qn ?_; refine qt (T_loads (ds := lgc a A Q.length c) rfl rfl rfl rfl rfl) ?_; refine qp ?_; refine qt (T_load rfl rfl rfl rfl) ?_; ((refine qe (E_hv0 (f := 125) ⟨_, Tryz.func125, rfl, by kernel_rfl⟩ (fun w hS => find_any w a A c Q ((Srd.old h (fun k _ => noOwns k)).rd w hS) hn hf pi) rfl rfl (fun _ => rfl)) ?_; rintro _ _ ⟨_, rfl, _, rfl⟩); rw [hR]); (iterate 3 refine qp ?_); (refine qe (E_alloca rfl at_zero) ?_; rintro _ _ ⟨b6, rfl, rfl⟩); refine qp ?_; (refine qw (E_storew (cs := atc (0, 0)) (ds := atc q) rfl rfl rfl rfl (atc_one _) rfl) ?_; rintro _ _ rfl); refine qn ?_; refine qp ?_; refine qf ?_; refine qp ?_; (iterate 3 refine qk ?_); refine qp ?_; refine qp ?_; refine qz ?_)
    exact hB _ _ _ _ _ rfl rfl fun w' hS => ⟨(), rfl, trivial, hS.sublist (List.nil_sublist _)⟩
set_option maxRecDepth 100000 in
set_option maxHeartbeats 4000000 in
theorem bclone_any (w : World) (A : Option Addr) (n c : Nat) (xs : List Value) (h : Rd w All 1 A n xs) (h1 : ∀ v ∈ xs, v.oneCell' = true) (hn : n ≤ 100000) :
    Gives Tryz.prog 123 [.slice A n c] [] w (X := Option Addr × Nat) (fun x => .slice x.1 n x.2) (fun _ => True) (fun x => [row 5 1 x.1 n x.2 xs]) := by
  refine gives_S Tryz.func123 rfl Tryz.ntmps123 Tryz.results123 (by simp) (St.enter w) (fun B hB => ?_)
  cases hA : A with
  | none =>
    subst hA
    have hn0 : n = 0 := by
      rcases Nat.eq_zero_or_pos n with h0 | h0
      · exact h0
      · obtain ⟨ad, e, _⟩ := h.2 h0
        cases e
    subst hn0
    obtain rfl : xs = [] := List.eq_nil_of_length_eq_zero (by simpa using h.1)
    focus (refine qs ?_; refine qp ?_; refine qz ?_; refine qq ?_; refine qs ?_; refine qp ?_; refine qt (T_eqnil rfl rfl rfl rfl) ?_; refine qz ?_; refine qT ?_; refine qs ?_; refine qp ?_; refine qz ?_)
    all_goals (try (exfalso; simp_all; done))
    refine hB _ _ _ _ _ rfl rfl fun w' hS => ⟨(none, 0), rfl, trivial, (hS.sublist (List.nil_sublist _)).nilrow _ _⟩
  | some ad =>
    subst hA
    focus (refine qs ?_; refine qp ?_; refine qz ?_; refine qq ?_; refine qs ?_; refine qp ?_; refine qt (T_eqnil rfl rfl rfl rfl) ?_; refine qz ?_; refine qF ?_; refine qx ?_; refine qs ?_; (refine qe (E_lit1 (m := 0) (vs := []) rfl rfl rfl rfl rfl rfl rfl (by simp) (by decide)) ?_; rintro _ _ ⟨bl, rfl, rfl⟩); refine qp ?_; (refine qe (E_apple rfl rfl rfl rfl rfl rfl rfl (by decide) .here (Srd.old h (fun k _ => noOwns k)) h1 (by show n * 1 ≤ _; omega) (by unfold maxLen; omega)) ?_; rintro _ _ ⟨A', c', rfl, rfl⟩); refine qp ?_; refine qz ?_)
    all_goals (try (exfalso; simp_all; done))
    refine hB _ _ _ _ _ rfl rfl fun w' hS => ⟨(A', c'), rfl, trivial, hS⟩
end Go.Proofs.YtdeffdldifepkaaGreat
namespace Go.Proofs.YtdeffdldifepkaaGreat
open Go.RowKit
open Asn (pt row rb)
set_option linter.unusedVariables false
set_option linter.unusedSimpArgs false
--@use N

def emd (m : Em) : Dt := m.2.2
theorem bv_ones (l : List UInt8) : ∀ v ∈ l.map bv, v.oneCell' = true := fun v hv => by
  obtain ⟨x, _, rfl⟩ := List.mem_map.1 hv
  rfl
/-- entries that say the same -/
def Cp (Q : List Em) : Type := {q : List Em // q.map emv = Q.map emv}
theorem Cp.len {Q : List Em} (q : Cp Q) : q.1.length = Q.length := by
  have := congrArg List.length q.2
  simpa using this
end Go.Proofs.YtdeffdldifepkaaGreat
namespace Go.Proofs.YtdeffdldifepkaaGreat
open Go.RowKit
open Asn (pt row rb)
set_option linter.unusedVariables false
set_option linter.unusedSimpArgs false
--@use N

end Go.Proofs.YtdeffdldifepkaaGreat
namespace Go.Proofs.YtdeffdldifepkaaGreat
open Go.RowKit
open Asn (pt row rb)
set_option linter.unusedVariables false
set_option linter.unusedSimpArgs false
--@use N

def chkE (a : At) (l : List En) (top : Nat) : Int := if rightB a l = true then (if top < (lastA a l).2 then 2 else 0) else 220
set_option maxRecDepth 100000 in
set_option maxHeartbeats 4000000 in
theorem checkL_any (w : World) (a : At) (A : Option Addr) (c : Nat) (Q : List Em) (h : Rd w All 3 A Q.length (cellsL emc Q)) (hn : Q.length ≤ 1000) (top : Nat) :
    Gives Tryz.prog 94 [.agg (lgc a A Q.length c).toArray, .int .u64 (top : Int)] [] w (X := Unit) (fun _ => zi (chkE a (Q.map emv) top)) (fun _ => True) (fun _ => []) := by
  refine gives_S Tryz.func94 rfl Tryz.ntmps94 Tryz.results94 (by simp) (St.enter w) (fun B hB => ?_)
  obtain ⟨i, t⟩ := a
  obtain ⟨r, hr⟩ : ∃ r, rightB (i, t) (Q.map emv) = r := ⟨_, rfl⟩
  obtain ⟨⟨li, lu⟩, hla⟩ : ∃ x, lastA (i, t) (Q.map emv) = x := ⟨_, rfl⟩
  have hs : chkE (i, t) (Q.map emv) top = if r = true then (if top < lu then 2 else 0) else 220 := by rw [chkE, hr, hla]
  rw [hs] at hB
  cases r
  · focus (refine qs ?_; (refine qe (E_boxa (cs := lgc (i, t) A Q.length c) rfl) ?_; rintro _ _ ⟨b2, rfl, rfl⟩); refine qp ?_; refine qz ?_; refine qq ?_; refine qb ?_; refine qs ?_; refine qt (T_loads (ds := lgc (i, t) A Q.length c) rfl rfl rfl rfl rfl) ?_; ((refine qe (E_hv0 (f := 121) ⟨_, Tryz.func121, rfl, by kernel_rfl⟩ (fun w hS => right_any w (i, t) A c Q ((Srd.old h (fun k _ => noOwns k)).rd w hS) (by omega)) rfl rfl (fun _ => rfl)) ?_; rintro _ _ ⟨_, rfl, _, rfl⟩); rw [hr]); refine qt (T_not rfl) ?_; refine qd ?_; refine qz ?_; refine qT ?_; refine qs ?_; refine qp ?_; refine qz ?_)
    exact hB _ _ _ _ _ rfl rfl fun w' hS => ⟨(), rfl, trivial, hS.sublist (List.nil_sublist _)⟩
  have hff := right_fits hr
  rw [List.length_map] at hff
  have hfit : (i, t).1 + Q.length ≤ 18446744073709551615 := by show i + _ ≤ _; have : i + Q.length ≤ _ := hff.2; omega
  rw [if_pos rfl] at hB
  by_cases ht : top < lu
  · rw [if_pos ht] at hB
    focus (refine qs ?_; (refine qe (E_boxa (cs := lgc (i, t) A Q.length c) rfl) ?_; rintro _ _ ⟨b2, rfl, rfl⟩); refine qp ?_; refine qz ?_; refine qq ?_; refine qb ?_; refine qs ?_; refine qt (T_loads (ds := lgc (i, t) A Q.length c) rfl rfl rfl rfl rfl) ?_; ((refine qe (E_hv0 (f := 121) ⟨_, Tryz.func121, rfl, by kernel_rfl⟩ (fun w hS => right_any w (i, t) A c Q ((Srd.old h (fun k _ => noOwns k)).rd w hS) (by omega)) rfl rfl (fun _ => rfl)) ?_; rintro _ _ ⟨_, rfl, _, rfl⟩); rw [hr]); refine qt (T_not rfl) ?_; refine qp ?_; refine qz ?_; refine qF ?_; refine qs ?_; refine qt (T_loads (ds := lgc (i, t) A Q.length c) rfl rfl rfl rfl rfl) ?_; ((refine qe (E_hv0 (f := 124) ⟨_, Tryz.func124, rfl, by kernel_rfl⟩ (fun w hS => last_any w (i, t) A c Q ((Srd.old h (fun k _ => noOwns k)).rd w hS) (by omega) hfit) rfl rfl (fun _ => rfl)) ?_; rintro _ _ ⟨_, rfl, _, rfl⟩); rw [hla]); refine qt (T_fldv (xs := atc (li, lu)) rfl rfl rfl rfl rfl rfl) ?_; refine qp ?_; refine qd ?_; refine qd ?_; refine qz ?_; refine qT ?_; refine qs ?_; refine qp ?_; refine qz ?_)
    exact hB _ _ _ _ _ rfl rfl fun w' hS => ⟨(), rfl, trivial, hS.sublist (List.nil_sublist _)⟩
  · rw [if_neg ht] at hB
    focus (refine qs ?_; (refine qe (E_boxa (cs := lgc (i, t) A Q.length c) rfl) ?_; rintro _ _ ⟨b2, rfl, rfl⟩); refine qp ?_; refine qz ?_; refine qq ?_; refine qb ?_; refine qs ?_; refine qt (T_loads (ds := lgc (i, t) A Q.length c) rfl rfl rfl rfl rfl) ?_; ((refine qe (E_hv0 (f := 121) ⟨_, Tryz.func121, rfl, by kernel_rfl⟩ (fun w hS => right_any w (i, t) A c Q ((Srd.old h (fun k _ => noOwns k)).rd w hS) (by omega)) rfl rfl (fun _ => rfl)) ?_; rintro _ _ ⟨_, rfl, _, rfl⟩); rw [hr]); refine qt (T_not rfl) ?_; refine qp ?_; refine qz ?_; refine qF ?_; refine qs ?_; refine qt (T_loads (ds := lgc (i, t) A Q.length c) rfl rfl rfl rfl rfl) ?_; ((refine qe (E_hv0 (f := 124) ⟨_, Tryz.func124, rfl, by kernel_rfl⟩ (fun w hS => last_any w (i, t) A c Q ((Srd.old h (fun k _ => noOwns k)).rd w hS) (by omega) hfit) rfl rfl (fun _ => rfl)) ?_; rintro _ _ ⟨_, rfl, _, rfl⟩); rw [hla]); refine qt (T_fldv (xs := atc (li, lu)) rfl rfl rfl rfl rfl rfl) ?_; refine qp ?_; refine qf ?_; refine qp ?_; refine qz ?_; refine qF ?_; refine qx ?_; refine RS_blk ?_; refine qs ?_; refine qp ?_; refine qz ?_)
    exact hB _ _ _ _ _ rfl rfl fun w' hS => ⟨(), rfl, trivial, hS.sublist (List.nil_sublist _)⟩
end Go.Proofs.YtdeffdldifepkaaGreat
namespace Go.Proofs.YtdeffdldifepkaaGreat
open Go.RowKit
open Asn (pt row rb)
set_option linter.unusedVariables false
set_option linter.unusedSimpArgs false
--@use N

end Go.Proofs.YtdeffdldifepkaaGreat
namespace Go.Proofs.YtdeffdldifepkaaGreat
open Go.RowKit
open Asn (pt row rb)
set_option linter.unusedVariables false
set_option linter.unusedSimpArgs false
--@use N

theorem dtB_caps {w0 w : World} {M : Nat → Prop} {H : List Asn} {e : TypeId} {D : List Dt} (hS : St w0 M H w) (hm : dtB e D ∈ H) : ∀ d ∈ D, d.2.2.length ≤ d.2.1 := fun d hd =>
  (row_facts ((hS.all _ hm).1.1 (dtA e d) (List.mem_map.2 ⟨d, hd, rfl⟩))).1
end Go.Proofs.YtdeffdldifepkaaGreat
namespace Go.Proofs.YtdeffdldifepkaaGreat
open Go.RowKit
open Asn (pt row rb)
set_option linter.unusedVariables false
set_option linter.unusedSimpArgs false
--@use N
end Go.Proofs.YtdeffdldifepkaaGreat
namespace Go.Proofs.YtdeffdldifepkaaGreat
open Go.RowKit
open Asn (pt row rb)
set_option linter.unusedVariables false
set_option linter.unusedSimpArgs false
--@use N

end Go.Proofs.YtdeffdldifepkaaGreat
namespace Go.Proofs.YtdeffdldifepkaaGreat
open Go.RowKit Go.ChangeShapes Go.WideShapes Go.ChangeAt
open Asn (pt row rb)
set_option linter.unusedVariables false
set_option linter.unusedSimpArgs false
--@use N

theorem wf_u64 {n : Int} (h : (Lit.int .u64 n).wf = true) : ∃ k : Nat, n = (k : Int) ∧ k < 18446744073709551616 := by
  have : 0 ≤ n ∧ n < 18446744073709551616 := by
    have := bounds_u64 h
    omega
  exact ⟨n.toNat, by omega, by omega⟩
section
variable {H : Type} {enc : TypeId × Value → H} {W : World}
end
end Go.Proofs.YtdeffdldifepkaaGreat
namespace Go.Proofs.YtdeffdldifepkaaGreat
set_option linter.unusedVariables false
set_option linter.unusedSimpArgs false

end Go.Proofs.YtdeffdldifepkaaGreat
namespace Go.Proofs.YtdeffdldifepkaaGreat
open Go.RowKit Go.ChangeShapes Go.WideShapes Go.ChangeAt
open Asn (pt row rb)
set_option linter.unusedVariables false
set_option linter.unusedSimpArgs false
--@use N

theorem Gives.pure12 {P : Program} {f : FuncId} {vs : List Value} {w : World} {v : Value} {I : Unit → Prop} {A : Unit → List Asn} (h : Gives P f vs [] w (fun _ => v) I A) : Calls P f vs.toArray w fun e w' => e = .returned v ∧ Kp All w w' :=
  h.mono fun e w' ⟨_, he, _, hS⟩ => ⟨he, hS.kpO⟩
theorem check_k (w : World) (a : At) (A : Option Addr) (c k : Nat) (Q : List Em) (l : List En) (hk : Q.length = k) (hl : Q.map emv = l) (h : Rd w All 3 A k (cellsL emc Q)) (hn : k ≤ 1000) (top : Nat) (r : Int) (hr : chkE a l top = r) :
    Gives Tryz.prog 94 [.agg (lgc a A k c).toArray, .int .u64 (top : Int)] [] w (X := Unit) (fun _ => zi r) (fun _ => True) (fun _ => []) := by
  subst hk
  subst hl
  subst hr
  exact checkL_any w a A c Q h hn top
theorem E_hvG {P : Program} {n : Nat} {w0 : World} {M : Nat → Prop} {T : Slots} {H : List Asn} {dd : Option Tmp} {tt : TypeId} {pos : String} {af : Array Edge} {g : Option (Nat × Bool)} {ts : Array TypeId} {f : FuncId} {xs : Array Operand} {vs vs' : List Value} {X : Type} {V : X → Value} {I : X → Prop} {A : X → List Asn} (hf : Fn_ P f) (hc : ∀ w, St w0 M H w → Gives P f vs' [] w V I A) (hx : ogets T xs.toList = some vs) (hv : vs = vs') :
    Ef P n w0 M T H ⟨dd, .call ⟨.value (.func f), xs, ts⟩, tt, pos, af, g⟩ (fun u H' => ∃ x, u = V x ∧ I x ∧ H' = A x ++ H) := by
  subst hv
  exact E_gv hf hx hc
end Go.Proofs.YtdeffdldifepkaaGreat
namespace Go.Proofs.YtdeffdldifepkaaGreat
open Go.RowKit
open Asn (pt row rb)
set_option linter.unusedVariables false
set_option linter.unusedSimpArgs false
--@use N

/-- an element's bytes, read whole -/
def BsM (w : World) (m : Em) : Prop := Bs w All m.2.2.1 m.2.2.2.2.length m.2.2.2.1 m.2.2.2.2
set_option maxRecDepth 100000 in
set_option maxHeartbeats 4000000 in
theorem beq_any (w : World) (A A2 : Option Addr) (n c n2 c2 : Nat) (l l2 : List UInt8) (h : Bs w All A n c l) (h2 : Bs w All A2 n2 c2 l2) :
    Gives Tryz.prog 137 [.slice A n c, .slice A2 n2 c2] [] w (X := Unit) (fun _ => .bool (decide (l = l2))) (fun _ => True) (fun _ => []) := by
  refine gives_S Tryz.func137 rfl Tryz.ntmps137 Tryz.results137 (by simp) (St.enter w) (fun B hB => ?_)
  obtain ⟨r, hr⟩ : ∃ r, decide (l = l2) = r := ⟨_, rfl⟩
  rw [hr] at hB
  have hsc : scmp .eql (bl ⟨l.toArray⟩) (bl ⟨l2.toArray⟩) = some r := by rw [← hr]; simp [scmp, bl]; first | done | exact decide_eq_decide.2 Iff.rfl | rfl | congr
  focus (refine qs ?_; refine qp ?_; refine qn ?_; refine qp ?_; refine qt (T_b2s rfl rfl rfl rfl rfl rfl rfl (Src.old h (fun k _ => noOwns k))) ?_; refine qp ?_; refine qt (T_b2s rfl rfl rfl rfl rfl rfl rfl (Src.old h2 (fun k _ => noOwns k))) ?_; refine qt (T_scmp (r := ⟨l.toArray⟩) (s := ⟨l2.toArray⟩) rfl rfl hsc) ?_; refine qp ?_; refine qz ?_)
  exact hB _ _ _ _ _ rfl rfl fun w' hS => ⟨(), rfl, trivial, hS.sublist (List.nil_sublist _)⟩
set_option maxRecDepth 100000 in
set_option maxHeartbeats 4000000 in
theorem like_any (w : World) (m m2 : Em) (h : BsM w m) (h2 : BsM w m2) :
    Gives Tryz.prog 136 [.agg (emc m).toArray, .agg (emc m2).toArray] [] w (X := Unit) (fun _ => .bool (decide (emv m = emv m2))) (fun _ => True) (fun _ => []) := by
  refine gives_S Tryz.func136 rfl Tryz.ntmps136 Tryz.results136 (by simp) (St.enter w) (fun B hB => ?_)
  obtain ⟨t, k, A, c, l⟩ := m
  obtain ⟨t2, k2, A2, c2', l2⟩ := m2
  have h : Bs w All A l.length c l := h
  have h2 : Bs w All A2 l2.length c2' l2 := h2
  obtain ⟨r, hr⟩ : ∃ r, decide (l = l2) = r := ⟨_, rfl⟩
  have he : decide (emv (t, k, A, c, l) = emv (t2, k2, A2, c2', l2)) = (decide (t = t2) && (decide (k = k2) && r)) := by
    rw [← hr]
    show decide (((t, k, l) : En) = (t2, k2, l2)) = _
    rw [Bool.eq_iff_iff]
    simp
  rw [he] at hB
  by_cases h1 : t = t2
  · by_cases h3 : k = k2
    · rw [decide_eq_true h1, decide_eq_true h3, Bool.true_and, Bool.true_and] at hB
      focus (refine qs ?_; (refine qe (E_boxa (cs := [.int .u64 (t : Int), .int .i64 k, .slice A l.length c]) rfl) ?_; rintro _ _ ⟨b2, rfl, rfl⟩); (refine qe (E_boxa (cs := [.int .u64 (t2 : Int), .int .i64 k2, .slice A2 l2.length c2']) rfl) ?_; rintro _ _ ⟨b3, rfl, rfl⟩); refine qp ?_; refine qn ?_; (iterate 2 (iterate 2 refine qp ?_; refine qt (T_load rfl rfl rfl rfl) ?_); refine qd ?_; refine qp ?_); refine qp ?_; (iterate 2 refine qp ?_; refine qt (T_load rfl rfl rfl rfl) ?_); ((refine qe (E_hv0 (f := 137) ⟨_, Tryz.func137, rfl, by kernel_rfl⟩ (fun w hS => beq_any w A A2 l.length c l2.length c2' l l2 ((Src.old h (fun k _ => noOwns k)).bs w hS) ((Src.old h2 (fun k _ => noOwns k)).bs w hS)) rfl rfl (fun _ => rfl)) ?_; rintro _ _ ⟨_, rfl, _, rfl⟩); rw [hr]); refine qp ?_; refine qp ?_; refine qz ?_)
      exact hB _ _ _ _ _ rfl rfl fun w' hS => ⟨(), rfl, trivial, hS.sublist (List.nil_sublist _)⟩
    · rw [decide_eq_false h3, Bool.false_and, Bool.and_false] at hB
      focus (refine qs ?_; (refine qe (E_boxa (cs := [.int .u64 (t : Int), .int .i64 k, .slice A l.length c]) rfl) ?_; rintro _ _ ⟨b2, rfl, rfl⟩); (refine qe (E_boxa (cs := [.int .u64 (t2 : Int), .int .i64 k2, .slice A2 l2.length c2']) rfl) ?_; rintro _ _ ⟨b3, rfl, rfl⟩); refine qp ?_; refine qn ?_; (iterate 2 refine qp ?_; refine qt (T_load rfl rfl rfl rfl) ?_); refine qd ?_; refine qp ?_; (iterate 2 refine qp ?_; refine qt (T_load rfl rfl rfl rfl) ?_); refine qf ?_; refine qp ?_; refine qp ?_; (iterate 5 refine qk ?_); refine qp ?_; refine qp ?_; refine qz ?_)
      exact hB _ _ _ _ _ rfl rfl fun w' hS => ⟨(), rfl, trivial, hS.sublist (List.nil_sublist _)⟩
  · rw [decide_eq_false h1, Bool.false_and] at hB
    focus (refine qs ?_; (refine qe (E_boxa (cs := [.int .u64 (t : Int), .int .i64 k, .slice A l.length c]) rfl) ?_; rintro _ _ ⟨b2, rfl, rfl⟩); (refine qe (E_boxa (cs := [.int .u64 (t2 : Int), .int .i64 k2, .slice A2 l2.length c2']) rfl) ?_; rintro _ _ ⟨b3, rfl, rfl⟩); refine qp ?_; refine qn ?_; (iterate 2 refine qp ?_; refine qt (T_load rfl rfl rfl rfl) ?_); refine qf ?_; (iterate 2 refine qp ?_; (iterate 5 refine qk ?_); refine qp ?_); refine qp ?_; refine qz ?_)
    exact hB _ _ _ _ _ rfl rfl fun w' hS => ⟨(), rfl, trivial, hS.sublist (List.nil_sublist _)⟩
theorem eq_uptoE {L M : List En} (hl : L.length = M.length) (h : ∀ i, i < L.length → L.getD i default = M.getD i default) : L = M := by
  refine List.ext_getElem hl fun i h1 h2 => ?_
  have := h i h1
  simpa [List.getD, h1, h2] using this
set_option maxRecDepth 100000 in
set_option maxHeartbeats 4000000 in
theorem eqfE_any (w : World) (A A2 : Option Addr) (c c2' : Nat) (Q M : List Em) (h : Rd w All 3 A Q.length (cellsL emc Q)) (h2 : Rd w All 3 A2 M.length (cellsL emc M)) (hq : ∀ m ∈ Q, BsM w m) (hm : ∀ m ∈ M, BsM w m) (hn : Q.length ≤ 100000) (hn2 : M.length ≤ 100000) :
    Gives Tryz.prog 138 [.slice A Q.length c, .slice A2 M.length c2', .func (.func 136) #[] #[]] [] w (X := Unit) (fun _ => .bool (decide (Q.map emv = M.map emv))) (fun _ => True) (fun _ => []) := by
  refine gives_S Tryz.func138 rfl Tryz.ntmps138 Tryz.results138 (by simp) (St.enter w) (fun B hB => ?_)
  have hne : 0 < Q.length → A ≠ none := fun h0 => by obtain ⟨ad, rfl, _⟩ := h.2 (by omega); simp
  have hne2 : 0 < M.length → A2 ≠ none := fun h0 => by obtain ⟨ad, rfl, _⟩ := h2.2 (by omega); simp
  by_cases hlm : Q.length = M.length
  · skip
    focus (refine qs ?_; refine qp ?_; refine qz ?_; refine qq ?_; refine qs ?_; (iterate 4 refine qp ?_); refine qf ?_; refine qz ?_; refine qF ?_; refine qx ?_; refine qq ?_; refine qs ?_; (iterate 3 refine qp ?_); refine qz ?_; refine qb ?_)
    refine S_loop (X := Nat) (fun j => [(1, .slice A2 M.length c2'), (2, .func (.func 136) #[] #[]), (15, .slice A Q.length c), (16, .int .i64 (Q.length : Int)), (17, .int .i64 (j : Int))]) (fun _ => []) (fun j => j ≤ Q.length ∧ ∀ i, i < j → (Q.map emv).getD i default = (M.map emv).getD i default) (fun j => Q.length - j) rfl 0 ⟨Nat.zero_le _, fun i hi => by omega⟩ (Sub.cons rfl (Sub.cons rfl (Sub.cons rfl (Sub.cons rfl (Sub.cons rfl Sub.nil))))) (fun _ h => h) ?_
    rintro j ⟨hj, hok⟩ J hJ
    rcases Nat.lt_or_ge j Q.length with hjl | hjl
    · have hne := hne (by omega)
      have hne2 := hne2 (by omega)
      have hjm : j < M.length := by omega
      have hat := cellsL_at (f := emc) emc_len Q default j hjl
      have hat2 := cellsL_at (f := emc) emc_len M default j hjm
      have eq1 : (Q.map emv).getD j default = emv (Q.getD j default) := by simp [List.getD, hjl]
      have eq2 : (M.map emv).getD j default = emv (M.getD j default) := by simp [List.getD, hjm]
      have hb1 := hq (Q.getD j default) (by simp [List.getD, hjl])
      have hb2 := hm (M.getD j default) (by simp [List.getD, hjm])
      have hnx : emv (Q.getD j default) = emv (M.getD j default) → ∀ i, i < j + 1 → (Q.map emv).getD i default = (M.map emv).getD i default := fun e i hi => by
        rcases Nat.lt_or_ge i j with h3 | h3
        · exact hok i h3
        · rw [show i = j by omega, eq1, eq2]; exact e
      have hne3 : emv (Q.getD j default) ≠ emv (M.getD j default) → ¬ Q.map emv = M.map emv := fun e e2 => e (by rw [← eq1, ← eq2, e2])
      obtain ⟨x, hx⟩ : ∃ x, Q.getD j default = x := ⟨_, rfl⟩
      obtain ⟨y, hy⟩ : ∃ y, M.getD j default = y := ⟨_, rfl⟩
      rw [hx] at hat hnx hne3 hb1
      rw [hy] at hat2 hnx hne3 hb2
      obtain ⟨r, hr⟩ : ∃ r, decide (emv x = emv y) = r := ⟨_, rfl⟩
      cases r
      · rw [decide_eq_false (hne3 (of_decide_eq_false hr))] at hB
        focus (refine qs ?_; refine qd ?_; refine qz ?_; refine qq ?_; refine qT ?_; refine qx ?_; refine qq ?_; refine qb ?_; refine qs ?_; refine qp ?_; refine qt (T_ixM (sz := 3) rfl rfl rfl rfl rfl rfl hne hjl) ?_; refine qt (T_lda (ds := emc x) rfl rfl rfl (Srd.old h (fun k _ => noOwns k)) rfl (by omega) hat) ?_; (refine qe (E_alloca rfl em_zero) ?_; rintro _ _ ⟨b8, rfl, rfl⟩); refine qp ?_; (refine qw (E_storew (cs := emc (0, 0, none, 0, [])) (ds := emc x) rfl rfl rfl rfl (emc_one _) rfl) ?_; rintro _ _ rfl); refine qn ?_; refine qp ?_; refine qp ?_; refine qt (T_ixM (sz := 3) rfl rfl rfl rfl rfl rfl hne2 hjm) ?_; refine qt (T_lda (ds := emc y) rfl rfl rfl (Srd.old h2 (fun k _ => noOwns k)) rfl (by omega) hat2) ?_; (refine qe (E_alloca rfl em_zero) ?_; rintro _ _ ⟨b8, rfl, rfl⟩); (refine qw (E_storew (cs := emc (0, 0, none, 0, [])) (ds := emc y) rfl rfl rfl rfl (emc_one _) rfl) ?_; rintro _ _ rfl); refine qn ?_; refine qp ?_; refine qt (T_loads (ds := emc x) rfl rfl rfl rfl rfl) ?_; refine qt (T_loads (ds := emc y) rfl rfl rfl rfl rfl) ?_; (refine qe (E_cloA (cap := []) rfl (E_hv0 (f := 136) ⟨_, Tryz.func136, rfl, by kernel_rfl⟩ (fun w hS => like_any w x y ((Src.old hb1 (fun k _ => noOwns k)).bs w hS) ((Src.old hb2 (fun k _ => noOwns k)).bs w hS)) rfl rfl (fun _ => rfl))) ?_; rintro _ _ ⟨_, rfl, _, rfl⟩; rw [hr]); refine qt (T_not rfl) ?_; refine qz ?_; refine qT ?_; refine qs ?_; refine qp ?_; refine qz ?_)
        exact hB _ _ _ _ _ rfl rfl fun w' hS => ⟨(), rfl, trivial, hS.sublist (List.nil_sublist _)⟩
      · focus (refine qs ?_; refine qd ?_; refine qz ?_; refine qq ?_; refine qT ?_; refine qx ?_; refine qq ?_; refine qb ?_; refine qs ?_; refine qp ?_; refine qt (T_ixM (sz := 3) rfl rfl rfl rfl rfl rfl hne hjl) ?_; refine qt (T_lda (ds := emc x) rfl rfl rfl (Srd.old h (fun k _ => noOwns k)) rfl (by omega) hat) ?_; (refine qe (E_alloca rfl em_zero) ?_; rintro _ _ ⟨b8, rfl, rfl⟩); refine qp ?_; (refine qw (E_storew (cs := emc (0, 0, none, 0, [])) (ds := emc x) rfl rfl rfl rfl (emc_one _) rfl) ?_; rintro _ _ rfl); refine qn ?_; refine qp ?_; refine qp ?_; refine qt (T_ixM (sz := 3) rfl rfl rfl rfl rfl rfl hne2 hjm) ?_; refine qt (T_lda (ds := emc y) rfl rfl rfl (Srd.old h2 (fun k _ => noOwns k)) rfl (by omega) hat2) ?_; (refine qe (E_alloca rfl em_zero) ?_; rintro _ _ ⟨b8, rfl, rfl⟩); (refine qw (E_storew (cs := emc (0, 0, none, 0, [])) (ds := emc y) rfl rfl rfl rfl (emc_one _) rfl) ?_; rintro _ _ rfl); refine qn ?_; refine qp ?_; refine qt (T_loads (ds := emc x) rfl rfl rfl rfl rfl) ?_; refine qt (T_loads (ds := emc y) rfl rfl rfl rfl rfl) ?_; (refine qe (E_cloA (cap := []) rfl (E_hv0 (f := 136) ⟨_, Tryz.func136, rfl, by kernel_rfl⟩ (fun w hS => like_any w x y ((Src.old hb1 (fun k _ => noOwns k)).bs w hS) ((Src.old hb2 (fun k _ => noOwns k)).bs w hS)) rfl rfl (fun _ => rfl))) ?_; rintro _ _ ⟨_, rfl, _, rfl⟩; rw [hr]); refine qt (T_not rfl) ?_; refine qz ?_; refine qF ?_; refine qx ?_; refine RS_blk ?_; refine qr ?_; refine qt (T_addN rfl rfl (by unfold fits; omega)) ?_; refine qp ?_; refine qz ?_)
        exact hJ (j + 1) _ _ ⟨by omega, hnx (of_decide_eq_true hr)⟩ (Sub.cons rfl (Sub.cons rfl (Sub.cons rfl (Sub.cons rfl (Sub.cons rfl Sub.nil))))) (fun _ h => h.sublist (List.nil_sublist _)) (by omega)
    have hjn : j = Q.length := by omega
    subst hjn
    rw [decide_eq_true (eq_uptoE (by simpa using hlm) (fun i hi => hok i (by simpa using hi)))] at hB
    focus (refine qs ?_; refine qf ?_; refine qz ?_; refine qq ?_; refine qF ?_; refine S_exit rfl rfl ?_; refine qs ?_; refine qp ?_; refine qz ?_)
    exact hB _ _ _ _ _ rfl rfl fun w' hS => ⟨(), rfl, trivial, hS.sublist (List.nil_sublist _)⟩
  · rw [decide_eq_false (fun e => hlm (by simpa using congrArg List.length e))] at hB
    focus (refine qs ?_; refine qp ?_; refine qz ?_; refine qq ?_; refine qs ?_; (iterate 4 refine qp ?_); refine qd ?_; refine qz ?_; refine qT ?_; refine qs ?_; refine qp ?_; refine qz ?_)
    exact hB _ _ _ _ _ rfl rfl fun w' hS => ⟨(), rfl, trivial, hS.sublist (List.nil_sublist _)⟩
set_option maxRecDepth 100000 in
set_option maxHeartbeats 4000000 in
theorem same_any (w : World) (a b : At) (A A2 : Option Addr) (c c2' : Nat) (Q M : List Em) (h : Rd w All 3 A Q.length (cellsL emc Q)) (h2 : Rd w All 3 A2 M.length (cellsL emc M)) (hq : ∀ m ∈ Q, BsM w m) (hm : ∀ m ∈ M, BsM w m) (hn : Q.length ≤ 100000) (hn2 : M.length ≤ 100000) :
    Gives Tryz.prog 61 [.agg (lgc a A Q.length c).toArray, .agg (lgc b A2 M.length c2').toArray] [] w (X := Unit) (fun _ => .bool (decide (a = b) && decide (Q.map emv = M.map emv))) (fun _ => True) (fun _ => []) := by
  refine gives_S Tryz.func61 rfl Tryz.ntmps61 Tryz.results61 (by simp) (St.enter w) (fun B hB => ?_)
  obtain ⟨i, t⟩ := a
  obtain ⟨i2, t2⟩ := b
  obtain ⟨r, hr⟩ : ∃ r, decide ((i, t) = (i2, t2)) = r := ⟨_, rfl⟩
  obtain ⟨q, hq2⟩ : ∃ r, decide (Q.map emv = M.map emv) = r := ⟨_, rfl⟩
  rw [hr, hq2] at hB
  cases r
  · rw [Bool.false_and] at hB
    focus (refine qs ?_; (refine qe (E_boxa (cs := lgc (i, t) A Q.length c) rfl) ?_; rintro _ _ ⟨b2, rfl, rfl⟩); (refine qe (E_boxa (cs := lgc (i2, t2) A2 M.length c2') rfl) ?_; rintro _ _ ⟨b3, rfl, rfl⟩); (iterate 2 refine qp ?_; refine qn ?_); refine qp ?_; refine qt (T_loads (ds := atc (i, t)) rfl rfl rfl rfl rfl) ?_; refine qp ?_; refine qt (T_loads (ds := atc (i2, t2)) rfl rfl rfl rfl rfl) ?_; refine qt (T_eqAt (a := (i, t)) (b := (i2, t2)) rfl rfl hr) ?_; refine qp ?_; (iterate 6 refine qk ?_); refine qp ?_; refine qp ?_; refine qz ?_)
    exact hB _ _ _ _ _ rfl rfl fun w' hS => ⟨(), rfl, trivial, hS.sublist (List.nil_sublist _)⟩
  · rw [Bool.true_and] at hB
    focus (refine qs ?_; (refine qe (E_boxa (cs := lgc (i, t) A Q.length c) rfl) ?_; rintro _ _ ⟨b2, rfl, rfl⟩); (refine qe (E_boxa (cs := lgc (i2, t2) A2 M.length c2') rfl) ?_; rintro _ _ ⟨b3, rfl, rfl⟩); (iterate 2 refine qp ?_; refine qn ?_); refine qp ?_; refine qt (T_loads (ds := atc (i, t)) rfl rfl rfl rfl rfl) ?_; refine qp ?_; refine qt (T_loads (ds := atc (i2, t2)) rfl rfl rfl rfl rfl) ?_; refine qt (T_eqAt (a := (i, t)) (b := (i2, t2)) rfl rfl hr) ?_; refine qp ?_; (iterate 2 refine qp ?_; refine qt (T_load rfl rfl rfl rfl) ?_); refine qp ?_; ((refine qe (E_hv0 (f := 138) ⟨_, Tryz.func138, rfl, by kernel_rfl⟩ (fun w hS => eqfE_any w A A2 c c2' Q M ((Srd.old h (fun k _ => noOwns k)).rd w hS) ((Srd.old h2 (fun k _ => noOwns k)).rd w hS) (fun m hm2 => (Src.old (hq m hm2) (fun k _ => noOwns k)).bs w hS) (fun m hm2 => (Src.old (hm m hm2) (fun k _ => noOwns k)).bs w hS) hn hn2) rfl rfl (fun _ => rfl)) ?_; rintro _ _ ⟨_, rfl, _, rfl⟩); rw [hq2]); refine qp ?_; refine qp ?_; refine qz ?_)
    exact hB _ _ _ _ _ rfl rfl fun w' hS => ⟨(), rfl, trivial, hS.sublist (List.nil_sublist _)⟩
end Go.Proofs.YtdeffdldifepkaaGreat
namespace Go.Proofs.YtdeffdldifepkaaGreat
set_option linter.unusedVariables false
set_option linter.unusedSimpArgs false

end Go.Proofs.YtdeffdldifepkaaGreat
namespace Go.Proofs.YtdeffdldifepkaaGreat
open Go.RowKit Go.ChangeShapes Go.WideShapes Go.ChangeAt
open Asn (pt row rb)
set_option linter.unusedVariables false
set_option linter.unusedSimpArgs false
--@use N

section
variable {H : Type} {enc : TypeId × Value → H} {W : World}
end
end Go.Proofs.YtdeffdldifepkaaGreat
