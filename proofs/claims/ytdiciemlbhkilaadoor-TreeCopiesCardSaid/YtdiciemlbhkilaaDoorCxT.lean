/- THE SEAT's TABLE OF TYPES, WRITTEN BY PROGRAM (types.py). -/
import Derived.Test.YtdiciemlbhkilaaDoorChecked
import Derived.Test.YtdiciemlbhkilaaDoorCxM
import Derived.KernelRfl
namespace Go.Proofs.YtdiciemlbhkilaaDoor
open Go Go.Cx
set_option maxRecDepth 100000
def Γ : List (Nat × TI) := [
  (1, ⟨.func #[] #[] false, 1, (some .nilFunc), 8⟩),
  (2, ⟨.int .i64, 1, (some (.int .i64 0)), 8⟩),
  (3, ⟨.int .i64, 1, (some (.int .i64 0)), 8⟩),
  (4, ⟨.bool, 1, (some (.bool false)), 1⟩),
  (5, ⟨.int .u8, 1, (some (.int .u8 0)), 1⟩),
  (6, ⟨.int .u8, 1, (some (.int .u8 0)), 1⟩),
  (7, ⟨.struct #[⟨ "x", 2, 0, false, "", "runtime", 0⟩, ⟨ "y", 3, 1, false, "", "runtime", 8⟩, ⟨ "signed", 4, 2, false, "", "runtime", 16⟩, ⟨ "code", 6, 3, false, "", "runtime", 17⟩], 4, (some (.agg #[(.int .i64 0), (.int .i64 0), (.bool false), (.int .u8 0)])), 24⟩),
  (8, ⟨.struct #[⟨ "x", 2, 0, false, "", "runtime", 0⟩, ⟨ "y", 3, 1, false, "", "runtime", 8⟩, ⟨ "signed", 4, 2, false, "", "runtime", 16⟩, ⟨ "code", 6, 3, false, "", "runtime", 17⟩], 4, (some (.agg #[(.int .i64 0), (.int .i64 0), (.bool false), (.int .u8 0)])), 24⟩),
  (9, ⟨.string, 1, (some (.string ByteArray.empty)), 16⟩),
  (10, ⟨.string, 1, (some (.string ByteArray.empty)), 16⟩),
  (11, ⟨.string, 1, (some (.string ByteArray.empty)), 16⟩),
  (12, ⟨.int .u64, 1, (some (.int .u64 0)), 8⟩),
  (13, ⟨.struct #[⟨ "msg", 9, 0, false, "", "runtime", 0⟩, ⟨ "addr", 12, 1, false, "", "runtime", 16⟩], 2, (some (.agg #[(.string ByteArray.empty), (.int .u64 0)])), 24⟩),
  (14, ⟨.struct #[⟨ "msg", 9, 0, false, "", "runtime", 0⟩, ⟨ "addr", 12, 1, false, "", "runtime", 16⟩], 2, (some (.agg #[(.string ByteArray.empty), (.int .u64 0)])), 24⟩),
  (15, ⟨.pointer 133, 1, (some (.pointer none)), 8⟩),
  (16, ⟨.pointer 136, 1, (some (.pointer none)), 8⟩),
  (17, ⟨.pointer 144, 1, (some (.pointer none)), 8⟩),
  (18, ⟨.struct #[⟨ "typ", 17, 0, false, "", "internal/runtime/maps", 0⟩], 1, (some (.agg #[(.pointer none)])), 8⟩),
  (19, ⟨.struct #[⟨ "typ", 17, 0, false, "", "internal/runtime/maps", 0⟩], 1, (some (.agg #[(.pointer none)])), 8⟩),
  (21, ⟨.int .i32, 1, (some (.int .i32 0)), 4⟩),
  (22, ⟨.slice 35, 1, (some (.slice none 0 0)), 24⟩),
  (23, ⟨.slice 35, 1, (some (.slice none 0 0)), 24⟩),
  (24, ⟨.int .u64, 1, (some (.int .u64 0)), 8⟩),
  (25, ⟨.array 2 24, 2, (some (.agg #[(.int .u64 0), (.int .u64 0)])), 16⟩),
  (26, ⟨.array 2 24, 2, (some (.agg #[(.int .u64 0), (.int .u64 0)])), 16⟩),
  (27, ⟨.func #[23, 3] #[4] false, 1, (some .nilFunc), 8⟩),
  (28, ⟨.func #[] #[4] false, 1, (some .nilFunc), 8⟩),
  (29, ⟨.slice 23, 1, (some (.slice none 0 0)), 24⟩),
  (30, ⟨.func #[26, 26] #[26] false, 1, (some .nilFunc), 8⟩),
  (31, ⟨.func #[3] #[26] false, 1, (some .nilFunc), 8⟩),
  (32, ⟨.func #[23, 26] #[4] false, 1, (some .nilFunc), 8⟩),
  (33, ⟨.func #[29, 26] #[4] false, 1, (some .nilFunc), 8⟩),
  (34, ⟨.struct #[⟨ "Var", 3, 0, false, "", "", 0⟩, ⟨ "No", 3, 1, false, "", "", 8⟩, ⟨ "Yes", 3, 2, false, "", "", 16⟩, ⟨ "Class", 4, 3, false, "", "", 24⟩], 4, (some (.agg #[(.int .i64 0), (.int .i64 0), (.int .i64 0), (.bool false)])), 32⟩),
  (35, ⟨.struct #[⟨ "Var", 3, 0, false, "", "", 0⟩, ⟨ "No", 3, 1, false, "", "", 8⟩, ⟨ "Yes", 3, 2, false, "", "", 16⟩, ⟨ "Class", 4, 3, false, "", "", 24⟩], 4, (some (.agg #[(.int .i64 0), (.int .i64 0), (.int .i64 0), (.bool false)])), 32⟩),
  (36, ⟨.slice 59, 1, (some (.slice none 0 0)), 24⟩),
  (37, ⟨.struct #[⟨ "N", 3, 0, false, "", "", 0⟩, ⟨ "L", 36, 1, false, "", "", 8⟩], 2, (some (.agg #[(.int .i64 0), (.slice none 0 0)])), 32⟩),
  (38, ⟨.struct #[⟨ "N", 3, 0, false, "", "", 0⟩, ⟨ "L", 36, 1, false, "", "", 8⟩], 2, (some (.agg #[(.int .i64 0), (.slice none 0 0)])), 32⟩),
  (39, ⟨.int .i64, 1, (some (.int .i64 0)), 8⟩),
  (41, ⟨.func #[29, 3] #[38, 39] false, 1, (some .nilFunc), 8⟩),
  (42, ⟨.func #[38, 26] #[4] false, 1, (some .nilFunc), 8⟩),
  (43, ⟨.func #[23, 3, 5, 5, 26] #[4] false, 1, (some .nilFunc), 8⟩),
  (44, ⟨.func #[45, 3] #[39] false, 1, (some .nilFunc), 8⟩),
  (45, ⟨.slice 69, 1, (some (.slice none 0 0)), 24⟩),
  (46, ⟨.func #[23] #[45] false, 1, (some .nilFunc), 8⟩),
  (48, ⟨.func #[9] #[23, 39] false, 1, (some .nilFunc), 8⟩),
  (50, ⟨.func #[23] #[9, 39] false, 1, (some .nilFunc), 8⟩),
  (51, ⟨.func #[] #[23] false, 1, (some .nilFunc), 8⟩),
  (52, ⟨.func #[45, 45] #[4] false, 1, (some .nilFunc), 8⟩),
  (53, ⟨.func #[23, 3] #[39] false, 1, (some .nilFunc), 8⟩),
  (54, ⟨.func #[26, 3] #[26] false, 1, (some .nilFunc), 8⟩),
  (55, ⟨.func #[26, 3] #[4] false, 1, (some .nilFunc), 8⟩),
  (56, ⟨.func #[23] #[] false, 1, (some .nilFunc), 8⟩),
  (57, ⟨.slice 3, 1, (some (.slice none 0 0)), 24⟩),
  (58, ⟨.struct #[⟨ "Kind", 3, 0, false, "", "", 0⟩, ⟨ "Lit", 3, 1, false, "", "", 8⟩, ⟨ "In", 57, 2, false, "", "", 16⟩], 3, (some (.agg #[(.int .i64 0), (.int .i64 0), (.slice none 0 0)])), 40⟩),
  (59, ⟨.struct #[⟨ "Kind", 3, 0, false, "", "", 0⟩, ⟨ "Lit", 3, 1, false, "", "", 8⟩, ⟨ "In", 57, 2, false, "", "", 16⟩], 3, (some (.agg #[(.int .i64 0), (.int .i64 0), (.slice none 0 0)])), 40⟩),
  (60, ⟨.func #[59] #[3] false, 1, (some .nilFunc), 8⟩),
  (61, ⟨.func #[3, 3, 3] #[3] false, 1, (some .nilFunc), 8⟩),
  (62, ⟨.func #[23, 63, 61] #[3] false, 1, (some .nilFunc), 8⟩),
  (63, ⟨.func #[4] #[3] false, 1, (some .nilFunc), 8⟩),
  (64, ⟨.func #[38] #[39] false, 1, (some .nilFunc), 8⟩),
  (65, ⟨.func #[26, 26] #[4] false, 1, (some .nilFunc), 8⟩),
  (66, ⟨.slice 4, 1, (some (.slice none 0 0)), 24⟩),
  (67, ⟨.func #[59, 26, 66] #[4] false, 1, (some .nilFunc), 8⟩),
  (68, ⟨.func #[45, 3] #[4] false, 1, (some .nilFunc), 8⟩),
  (69, ⟨.struct #[⟨ "Var", 3, 0, false, "", "", 0⟩, ⟨ "No", 3, 1, false, "", "", 8⟩, ⟨ "Yes", 3, 2, false, "", "", 16⟩, ⟨ "Class", 4, 3, false, "", "", 24⟩], 4, (some (.agg #[(.int .i64 0), (.int .i64 0), (.int .i64 0), (.bool false)])), 32⟩),
  (70, ⟨.func #[45, 3, 3] #[4] false, 1, (some .nilFunc), 8⟩),
  (71, ⟨.pointer 73, 1, (some (.pointer none)), 8⟩),
  (72, ⟨.struct #[⟨ "tree", 23, 0, false, "", "census/tree", 0⟩, ⟨ "rest", 9, 1, false, "", "census/tree", 24⟩], 2, (some (.agg #[(.slice none 0 0), (.string ByteArray.empty)])), 40⟩),
  (73, ⟨.struct #[⟨ "tree", 23, 0, false, "", "census/tree", 0⟩, ⟨ "rest", 9, 1, false, "", "census/tree", 24⟩], 2, (some (.agg #[(.slice none 0 0), (.string ByteArray.empty)])), 40⟩),
  (74, ⟨.func #[23, 75, 77] #[9] false, 1, (some .nilFunc), 8⟩),
  (75, ⟨.func #[4] #[9] false, 1, (some .nilFunc), 8⟩),
  (76, ⟨.func #[3] #[9] false, 1, (some .nilFunc), 8⟩),
  (77, ⟨.func #[3, 9, 9] #[9] false, 1, (some .nilFunc), 8⟩),
  (78, ⟨.slice 26, 1, (some (.slice none 0 0)), 24⟩),
  (79, ⟨.func #[35, 3, 3, 3] #[4] false, 1, (some .nilFunc), 8⟩),
  (81, ⟨.func #[3] #[3, 24, 4] false, 1, (some .nilFunc), 8⟩),
  (82, ⟨.func #[38] #[3] false, 1, (some .nilFunc), 8⟩),
  (83, ⟨.func #[38, 3] #[4] false, 1, (some .nilFunc), 8⟩),
  (84, ⟨.func #[5] #[4] false, 1, (some .nilFunc), 8⟩),
  (86, ⟨.func #[] #[3, 4] false, 1, (some .nilFunc), 8⟩),
  (87, ⟨.slice 9, 1, (some (.slice none 0 0)), 24⟩),
  (88, ⟨.int .u64, 1, (some (.int .u64 0)), 8⟩),
  (89, ⟨.func #[3, 3] #[4] false, 1, (some .nilFunc), 8⟩),
  (90, ⟨.func #[57, 91] #[4] false, 1, (some .nilFunc), 8⟩),
  (91, ⟨.func #[3] #[4] false, 1, (some .nilFunc), 8⟩),
  (92, ⟨.func #[3] #[3] false, 1, (some .nilFunc), 8⟩),
  (96, ⟨.func #[9] #[3, 94] false, 1, (some .nilFunc), 8⟩),
  (97, ⟨.func #[2, 3] #[9] false, 1, (some .nilFunc), 8⟩),
  (98, ⟨.func #[57, 91] #[3] false, 1, (some .nilFunc), 8⟩),
  (99, ⟨.func #[9, 9, 3, 3, 94] #[94] false, 1, (some .nilFunc), 8⟩),
  (100, ⟨.array 24 5, 24, (some (.agg #[(.int .u8 0), (.int .u8 0), (.int .u8 0), (.int .u8 0), (.int .u8 0), (.int .u8 0), (.int .u8 0), (.int .u8 0), (.int .u8 0), (.int .u8 0), (.int .u8 0), (.int .u8 0), (.int .u8 0), (.int .u8 0), (.int .u8 0), (.int .u8 0), (.int .u8 0), (.int .u8 0), (.int .u8 0), (.int .u8 0), (.int .u8 0), (.int .u8 0), (.int .u8 0), (.int .u8 0)])), 24⟩),
  (101, ⟨.func #[24] #[3] false, 1, (some .nilFunc), 8⟩),
  (102, ⟨.func #[103, 24] #[] false, 1, (some .nilFunc), 8⟩),
  (103, ⟨.slice 5, 1, (some (.slice none 0 0)), 24⟩),
  (105, ⟨.func #[103, 24, 3, 4, 4] #[103, 9] false, 1, (some .nilFunc), 8⟩),
  (106, ⟨.int .i64, 1, (some (.int .i64 0)), 8⟩),
  (108, ⟨.func #[9, 3, 3] #[2, 94] false, 1, (some .nilFunc), 8⟩),
  (109, ⟨.pointer 120, 1, (some (.pointer none)), 8⟩),
  (110, ⟨.func #[9, 9] #[109] false, 1, (some .nilFunc), 8⟩),
  (111, ⟨.func #[9, 9, 3] #[109] false, 1, (some .nilFunc), 8⟩),
  (112, ⟨.array 20 24, 20, (some (.agg #[(.int .u64 0), (.int .u64 0), (.int .u64 0), (.int .u64 0), (.int .u64 0), (.int .u64 0), (.int .u64 0), (.int .u64 0), (.int .u64 0), (.int .u64 0), (.int .u64 0), (.int .u64 0), (.int .u64 0), (.int .u64 0), (.int .u64 0), (.int .u64 0), (.int .u64 0), (.int .u64 0), (.int .u64 0), (.int .u64 0)])), 160⟩),
  (113, ⟨.int .u32, 1, (some (.int .u32 0)), 4⟩),
  (114, ⟨.array 65 5, 65, (some (.agg #[(.int .u8 0), (.int .u8 0), (.int .u8 0), (.int .u8 0), (.int .u8 0), (.int .u8 0), (.int .u8 0), (.int .u8 0), (.int .u8 0), (.int .u8 0), (.int .u8 0), (.int .u8 0), (.int .u8 0), (.int .u8 0), (.int .u8 0), (.int .u8 0), (.int .u8 0), (.int .u8 0), (.int .u8 0), (.int .u8 0), (.int .u8 0), (.int .u8 0), (.int .u8 0), (.int .u8 0), (.int .u8 0), (.int .u8 0), (.int .u8 0), (.int .u8 0), (.int .u8 0), (.int .u8 0), (.int .u8 0), (.int .u8 0), (.int .u8 0), (.int .u8 0), (.int .u8 0), (.int .u8 0), (.int .u8 0), (.int .u8 0), (.int .u8 0), (.int .u8 0), (.int .u8 0), (.int .u8 0), (.int .u8 0), (.int .u8 0), (.int .u8 0), (.int .u8 0), (.int .u8 0), (.int .u8 0), (.int .u8 0), (.int .u8 0), (.int .u8 0), (.int .u8 0), (.int .u8 0), (.int .u8 0), (.int .u8 0), (.int .u8 0), (.int .u8 0), (.int .u8 0), (.int .u8 0), (.int .u8 0), (.int .u8 0), (.int .u8 0), (.int .u8 0), (.int .u8 0), (.int .u8 0)])), 65⟩),
  (115, ⟨.func #[88] #[3] false, 1, (some .nilFunc), 8⟩),
  (117, ⟨.func #[9, 3, 3] #[24, 94] false, 1, (some .nilFunc), 8⟩),
  (118, ⟨.func #[9] #[9] false, 1, (some .nilFunc), 8⟩),
  (119, ⟨.struct #[⟨ "Func", 9, 0, false, "", "", 0⟩, ⟨ "Num", 9, 1, false, "", "", 16⟩, ⟨ "Err", 94, 2, false, "", "", 32⟩], 3, (some (.agg #[(.string ByteArray.empty), (.string ByteArray.empty), .nilIface])), 48⟩),
  (120, ⟨.struct #[⟨ "Func", 9, 0, false, "", "", 0⟩, ⟨ "Num", 9, 1, false, "", "", 16⟩, ⟨ "Err", 94, 2, false, "", "", 32⟩], 3, (some (.agg #[(.string ByteArray.empty), (.string ByteArray.empty), .nilIface])), 48⟩),
  (121, ⟨.func #[9] #[94] false, 1, (some .nilFunc), 8⟩),
  (122, ⟨.func #[113] #[3] false, 1, (some .nilFunc), 8⟩),
  (123, ⟨.func #[5] #[5] false, 1, (some .nilFunc), 8⟩),
  (124, ⟨.func #[9] #[4] false, 1, (some .nilFunc), 8⟩),
  (125, ⟨.pointer 5, 1, (some (.pointer none)), 8⟩),
  (126, ⟨.pointer 128, 1, (some (.pointer none)), 8⟩),
  (127, ⟨.struct #[⟨ "s", 9, 0, false, "", "errors", 0⟩], 1, (some (.agg #[(.string ByteArray.empty)])), 16⟩),
  (128, ⟨.struct #[⟨ "s", 9, 0, false, "", "errors", 0⟩], 1, (some (.agg #[(.string ByteArray.empty)])), 16⟩),
  (129, ⟨.array 32 5, 32, (some (.agg #[(.int .u8 0), (.int .u8 0), (.int .u8 0), (.int .u8 0), (.int .u8 0), (.int .u8 0), (.int .u8 0), (.int .u8 0), (.int .u8 0), (.int .u8 0), (.int .u8 0), (.int .u8 0), (.int .u8 0), (.int .u8 0), (.int .u8 0), (.int .u8 0), (.int .u8 0), (.int .u8 0), (.int .u8 0), (.int .u8 0), (.int .u8 0), (.int .u8 0), (.int .u8 0), (.int .u8 0), (.int .u8 0), (.int .u8 0), (.int .u8 0), (.int .u8 0), (.int .u8 0), (.int .u8 0), (.int .u8 0), (.int .u8 0)])), 32⟩),
  (130, ⟨.array 64 5, 64, (some (.agg #[(.int .u8 0), (.int .u8 0), (.int .u8 0), (.int .u8 0), (.int .u8 0), (.int .u8 0), (.int .u8 0), (.int .u8 0), (.int .u8 0), (.int .u8 0), (.int .u8 0), (.int .u8 0), (.int .u8 0), (.int .u8 0), (.int .u8 0), (.int .u8 0), (.int .u8 0), (.int .u8 0), (.int .u8 0), (.int .u8 0), (.int .u8 0), (.int .u8 0), (.int .u8 0), (.int .u8 0), (.int .u8 0), (.int .u8 0), (.int .u8 0), (.int .u8 0), (.int .u8 0), (.int .u8 0), (.int .u8 0), (.int .u8 0), (.int .u8 0), (.int .u8 0), (.int .u8 0), (.int .u8 0), (.int .u8 0), (.int .u8 0), (.int .u8 0), (.int .u8 0), (.int .u8 0), (.int .u8 0), (.int .u8 0), (.int .u8 0), (.int .u8 0), (.int .u8 0), (.int .u8 0), (.int .u8 0), (.int .u8 0), (.int .u8 0), (.int .u8 0), (.int .u8 0), (.int .u8 0), (.int .u8 0), (.int .u8 0), (.int .u8 0), (.int .u8 0), (.int .u8 0), (.int .u8 0), (.int .u8 0), (.int .u8 0), (.int .u8 0), (.int .u8 0), (.int .u8 0)])), 64⟩),
  (131, ⟨.func #[] #[9] false, 1, (some .nilFunc), 8⟩),
  (132, ⟨.struct #[⟨ "_interface", 17, 0, false, "", "runtime", 0⟩, ⟨ "concrete", 17, 1, false, "", "runtime", 8⟩, ⟨ "asserted", 17, 2, false, "", "runtime", 16⟩, ⟨ "missingMethod", 9, 3, false, "", "runtime", 24⟩], 4, (some (.agg #[(.pointer none), (.pointer none), (.pointer none), (.string ByteArray.empty)])), 40⟩),
  (133, ⟨.struct #[⟨ "_interface", 17, 0, false, "", "runtime", 0⟩, ⟨ "concrete", 17, 1, false, "", "runtime", 8⟩, ⟨ "asserted", 17, 2, false, "", "runtime", 16⟩, ⟨ "missingMethod", 9, 3, false, "", "runtime", 24⟩], 4, (some (.agg #[(.pointer none), (.pointer none), (.pointer none), (.string ByteArray.empty)])), 40⟩),
  (134, ⟨.array 0 16, 0, (some (.agg #[])), 0⟩),
  (135, ⟨.struct #[⟨ "_", 134, 0, false, "", "runtime", 0⟩], 0, (some (.agg #[])), 0⟩),
  (136, ⟨.struct #[⟨ "_", 134, 0, false, "", "runtime", 0⟩], 0, (some (.agg #[])), 0⟩),
  (137, ⟨.func #[] #[3] false, 1, (some .nilFunc), 8⟩),
  (138, ⟨.int .u8, 1, (some (.int .u8 0)), 1⟩),
  (139, ⟨.int .u8, 1, (some (.int .u8 0)), 1⟩),
  (140, ⟨.func #[145, 145] #[4] false, 1, (some .nilFunc), 8⟩),
  (141, ⟨.int .i32, 1, (some (.int .i32 0)), 4⟩),
  (142, ⟨.int .i32, 1, (some (.int .i32 0)), 4⟩),
  (143, ⟨.struct #[⟨ "Size_", 12, 0, false, "", "", 0⟩, ⟨ "PtrBytes", 12, 1, false, "", "", 8⟩, ⟨ "Hash", 113, 2, false, "", "", 16⟩, ⟨ "TFlag", 138, 3, false, "", "", 20⟩, ⟨ "Align_", 5, 4, false, "", "", 21⟩, ⟨ "FieldAlign_", 5, 5, false, "", "", 22⟩, ⟨ "Kind_", 139, 6, false, "", "", 23⟩, ⟨ "Equal", 140, 7, false, "", "", 24⟩, ⟨ "GCData", 125, 8, false, "", "", 32⟩, ⟨ "Str", 141, 9, false, "", "", 40⟩, ⟨ "PtrToThis", 142, 10, false, "", "", 44⟩], 11, (some (.agg #[(.int .u64 0), (.int .u64 0), (.int .u32 0), (.int .u8 0), (.int .u8 0), (.int .u8 0), (.int .u8 0), .nilFunc, (.pointer none), (.int .i32 0), (.int .i32 0)])), 48⟩),
  (144, ⟨.struct #[⟨ "Size_", 12, 0, false, "", "", 0⟩, ⟨ "PtrBytes", 12, 1, false, "", "", 8⟩, ⟨ "Hash", 113, 2, false, "", "", 16⟩, ⟨ "TFlag", 138, 3, false, "", "", 20⟩, ⟨ "Align_", 5, 4, false, "", "", 21⟩, ⟨ "FieldAlign_", 5, 5, false, "", "", 22⟩, ⟨ "Kind_", 139, 6, false, "", "", 23⟩, ⟨ "Equal", 140, 7, false, "", "", 24⟩, ⟨ "GCData", 125, 8, false, "", "", 32⟩, ⟨ "Str", 141, 9, false, "", "", 40⟩, ⟨ "PtrToThis", 142, 10, false, "", "", 44⟩], 11, (some (.agg #[(.int .u64 0), (.int .u64 0), (.int .u32 0), (.int .u8 0), (.int .u8 0), (.int .u8 0), (.int .u8 0), .nilFunc, (.pointer none), (.int .i32 0), (.int .i32 0)])), 48⟩)
]
theorem hΓ : Fits Tryd.prog Γ :=
  .cons (
  .cons (
  .cons (
  .cons (
  .cons (
  .cons (
  .cons (
  .cons (
  .cons (
  .cons (
  .cons (
  .cons (
  .cons (
  .cons (
  .cons (
  .cons (
  .cons (
  .cons (
  .cons (
  .cons (
  .cons (
  .cons (
  .cons (
  .cons (
  .cons (
  .cons (
  .cons (
  .cons (
  .cons (
  .cons (
  .cons (
  .cons (
  .cons (
  .cons (
  .cons (
  .cons (
  .cons (
  .cons (
  .cons (
  .cons (
  .cons (
  .cons (
  .cons (
  .cons (
  .cons (
  .cons (
  .cons (
  .cons (
  .cons (
  .cons (
  .cons (
  .cons (
  .cons (
  .cons (
  .cons (
  .cons (
  .cons (
  .cons (
  .cons (
  .cons (
  .cons (
  .cons (
  .cons (
  .cons (
  .cons (
  .cons (
  .cons (
  .cons (
  .cons (
  .cons (
  .cons (
  .cons (
  .cons (
  .cons (
  .cons (
  .cons (
  .cons (
  .cons (
  .cons (
  .cons (
  .cons (
  .cons (
  .cons (
  .cons (
  .cons (
  .cons (
  .cons (
  .cons (
  .cons (
  .cons (
  .cons (
  .cons (
  .cons (
  .cons (
  .cons (
  .cons (
  .cons (
  .cons (
  .cons (
  .cons (
  .cons (
  .cons (
  .cons (
  .cons (
  .cons (
  .cons (
  .cons (
  .cons (
  .cons (
  .cons (
  .cons (
  .cons (
  .cons (
  .cons (
  .cons (
  .cons (
  .cons (
  .cons (
  .cons (
  .cons (
  .cons (
  .cons (
  .cons (
  .cons (
  .cons (
  .cons (
  .cons (
  .cons (
  .cons (
  .cons (
  .cons (
  .cons (
  Fits.nil _
  ) (by kernel_rfl) (by kernel_rfl)
  ) (by kernel_rfl) (by kernel_rfl)
  ) (by kernel_rfl) (by kernel_rfl)
  ) (by kernel_rfl) (by kernel_rfl)
  ) (by kernel_rfl) (by kernel_rfl)
  ) (by kernel_rfl) (by kernel_rfl)
  ) (by kernel_rfl) (by kernel_rfl)
  ) (by kernel_rfl) (by kernel_rfl)
  ) (by kernel_rfl) (by kernel_rfl)
  ) (by kernel_rfl) (by kernel_rfl)
  ) (by kernel_rfl) (by kernel_rfl)
  ) (by kernel_rfl) (by kernel_rfl)
  ) (by kernel_rfl) (by kernel_rfl)
  ) (by kernel_rfl) (by kernel_rfl)
  ) (by kernel_rfl) (by kernel_rfl)
  ) (by kernel_rfl) (by kernel_rfl)
  ) (by kernel_rfl) (by kernel_rfl)
  ) (by kernel_rfl) (by kernel_rfl)
  ) (by kernel_rfl) (by kernel_rfl)
  ) (by kernel_rfl) (by kernel_rfl)
  ) (by kernel_rfl) (by kernel_rfl)
  ) (by kernel_rfl) (by kernel_rfl)
  ) (by kernel_rfl) (by kernel_rfl)
  ) (by kernel_rfl) (by kernel_rfl)
  ) (by kernel_rfl) (by kernel_rfl)
  ) (by kernel_rfl) (by kernel_rfl)
  ) (by kernel_rfl) (by kernel_rfl)
  ) (by kernel_rfl) (by kernel_rfl)
  ) (by kernel_rfl) (by kernel_rfl)
  ) (by kernel_rfl) (by kernel_rfl)
  ) (by kernel_rfl) (by kernel_rfl)
  ) (by kernel_rfl) (by kernel_rfl)
  ) (by kernel_rfl) (by kernel_rfl)
  ) (by kernel_rfl) (by kernel_rfl)
  ) (by kernel_rfl) (by kernel_rfl)
  ) (by kernel_rfl) (by kernel_rfl)
  ) (by kernel_rfl) (by kernel_rfl)
  ) (by kernel_rfl) (by kernel_rfl)
  ) (by kernel_rfl) (by kernel_rfl)
  ) (by kernel_rfl) (by kernel_rfl)
  ) (by kernel_rfl) (by kernel_rfl)
  ) (by kernel_rfl) (by kernel_rfl)
  ) (by kernel_rfl) (by kernel_rfl)
  ) (by kernel_rfl) (by kernel_rfl)
  ) (by kernel_rfl) (by kernel_rfl)
  ) (by kernel_rfl) (by kernel_rfl)
  ) (by kernel_rfl) (by kernel_rfl)
  ) (by kernel_rfl) (by kernel_rfl)
  ) (by kernel_rfl) (by kernel_rfl)
  ) (by kernel_rfl) (by kernel_rfl)
  ) (by kernel_rfl) (by kernel_rfl)
  ) (by kernel_rfl) (by kernel_rfl)
  ) (by kernel_rfl) (by kernel_rfl)
  ) (by kernel_rfl) (by kernel_rfl)
  ) (by kernel_rfl) (by kernel_rfl)
  ) (by kernel_rfl) (by kernel_rfl)
  ) (by kernel_rfl) (by kernel_rfl)
  ) (by kernel_rfl) (by kernel_rfl)
  ) (by kernel_rfl) (by kernel_rfl)
  ) (by kernel_rfl) (by kernel_rfl)
  ) (by kernel_rfl) (by kernel_rfl)
  ) (by kernel_rfl) (by kernel_rfl)
  ) (by kernel_rfl) (by kernel_rfl)
  ) (by kernel_rfl) (by kernel_rfl)
  ) (by kernel_rfl) (by kernel_rfl)
  ) (by kernel_rfl) (by kernel_rfl)
  ) (by kernel_rfl) (by kernel_rfl)
  ) (by kernel_rfl) (by kernel_rfl)
  ) (by kernel_rfl) (by kernel_rfl)
  ) (by kernel_rfl) (by kernel_rfl)
  ) (by kernel_rfl) (by kernel_rfl)
  ) (by kernel_rfl) (by kernel_rfl)
  ) (by kernel_rfl) (by kernel_rfl)
  ) (by kernel_rfl) (by kernel_rfl)
  ) (by kernel_rfl) (by kernel_rfl)
  ) (by kernel_rfl) (by kernel_rfl)
  ) (by kernel_rfl) (by kernel_rfl)
  ) (by kernel_rfl) (by kernel_rfl)
  ) (by kernel_rfl) (by kernel_rfl)
  ) (by kernel_rfl) (by kernel_rfl)
  ) (by kernel_rfl) (by kernel_rfl)
  ) (by kernel_rfl) (by kernel_rfl)
  ) (by kernel_rfl) (by kernel_rfl)
  ) (by kernel_rfl) (by kernel_rfl)
  ) (by kernel_rfl) (by kernel_rfl)
  ) (by kernel_rfl) (by kernel_rfl)
  ) (by kernel_rfl) (by kernel_rfl)
  ) (by kernel_rfl) (by kernel_rfl)
  ) (by kernel_rfl) (by kernel_rfl)
  ) (by kernel_rfl) (by kernel_rfl)
  ) (by kernel_rfl) (by kernel_rfl)
  ) (by kernel_rfl) (by kernel_rfl)
  ) (by kernel_rfl) (by kernel_rfl)
  ) (by kernel_rfl) (by kernel_rfl)
  ) (by kernel_rfl) (by kernel_rfl)
  ) (by kernel_rfl) (by kernel_rfl)
  ) (by kernel_rfl) (by kernel_rfl)
  ) (by kernel_rfl) (by kernel_rfl)
  ) (by kernel_rfl) (by kernel_rfl)
  ) (by kernel_rfl) (by kernel_rfl)
  ) (by kernel_rfl) (by kernel_rfl)
  ) (by kernel_rfl) (by kernel_rfl)
  ) (by kernel_rfl) (by kernel_rfl)
  ) (by kernel_rfl) (by kernel_rfl)
  ) (by kernel_rfl) (by kernel_rfl)
  ) (by kernel_rfl) (by kernel_rfl)
  ) (by kernel_rfl) (by kernel_rfl)
  ) (by kernel_rfl) (by kernel_rfl)
  ) (by kernel_rfl) (by kernel_rfl)
  ) (by kernel_rfl) (by kernel_rfl)
  ) (by kernel_rfl) (by kernel_rfl)
  ) (by kernel_rfl) (by kernel_rfl)
  ) (by kernel_rfl) (by kernel_rfl)
  ) (by kernel_rfl) (by kernel_rfl)
  ) (by kernel_rfl) (by kernel_rfl)
  ) (by kernel_rfl) (by kernel_rfl)
  ) (by kernel_rfl) (by kernel_rfl)
  ) (by kernel_rfl) (by kernel_rfl)
  ) (by kernel_rfl) (by kernel_rfl)
  ) (by kernel_rfl) (by kernel_rfl)
  ) (by kernel_rfl) (by kernel_rfl)
  ) (by kernel_rfl) (by kernel_rfl)
  ) (by kernel_rfl) (by kernel_rfl)
  ) (by kernel_rfl) (by kernel_rfl)
  ) (by kernel_rfl) (by kernel_rfl)
  ) (by kernel_rfl) (by kernel_rfl)
  ) (by kernel_rfl) (by kernel_rfl)
  ) (by kernel_rfl) (by kernel_rfl)
  ) (by kernel_rfl) (by kernel_rfl)
  ) (by kernel_rfl) (by kernel_rfl)
  ) (by kernel_rfl) (by kernel_rfl)
  ) (by kernel_rfl) (by kernel_rfl)
end Go.Proofs.YtdiciemlbhkilaaDoor
