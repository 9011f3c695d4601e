/- THE SEAT's TABLE OF TYPES, WRITTEN BY PROGRAM (types.py). -/
import Derived.Test.YtncnpmgohhgmfaaDoorChecked
import Derived.Test.YtncnpmgohhgmfaaDoorCxM
import Derived.KernelRfl
namespace Go.Proofs.YtncnpmgohhgmfaaDoor
open Go Go.Cx
set_option maxRecDepth 100000
def Γ : List (Nat × TI) := [
  (1, ⟨.func #[] #[] false, 1, (some .nilFunc), 8⟩),
  (2, ⟨.int .i64, 1, (some (.int .i64 0)), 8⟩),
  (3, ⟨.int .i64, 1, (some (.int .i64 0)), 8⟩),
  (4, ⟨.bool, 1, (some (.bool false)), 1⟩),
  (5, ⟨.int .u8, 1, (some (.int .u8 0)), 1⟩),
  (6, ⟨.int .u8, 1, (some (.int .u8 0)), 1⟩),
  (7, ⟨.struct #[⟨ "x", 2, 0, false, "", "runtime", 0⟩, ⟨ "y", 3, 1, false, "", "runtime", 8⟩, ⟨ "signed", 4, 2, false, "", "runtime", 16⟩, ⟨ "code", 6, 3, false, "", "runtime", 17⟩], 4, (some (.agg #[(.int .i64 0), (.int .i64 0), (.bool false), (.int .u8 0)])), 24⟩),
  (8, ⟨.struct #[⟨ "x", 2, 0, false, "", "runtime", 0⟩, ⟨ "y", 3, 1, false, "", "runtime", 8⟩, ⟨ "signed", 4, 2, false, "", "runtime", 16⟩, ⟨ "code", 6, 3, false, "", "runtime", 17⟩], 4, (some (.agg #[(.int .i64 0), (.int .i64 0), (.bool false), (.int .u8 0)])), 24⟩),
  (9, ⟨.string, 1, (some (.string ByteArray.empty)), 16⟩),
  (10, ⟨.string, 1, (some (.string ByteArray.empty)), 16⟩),
  (11, ⟨.string, 1, (some (.string ByteArray.empty)), 16⟩),
  (12, ⟨.int .u64, 1, (some (.int .u64 0)), 8⟩),
  (13, ⟨.struct #[⟨ "msg", 9, 0, false, "", "runtime", 0⟩, ⟨ "addr", 12, 1, false, "", "runtime", 16⟩], 2, (some (.agg #[(.string ByteArray.empty), (.int .u64 0)])), 24⟩),
  (14, ⟨.struct #[⟨ "msg", 9, 0, false, "", "runtime", 0⟩, ⟨ "addr", 12, 1, false, "", "runtime", 16⟩], 2, (some (.agg #[(.string ByteArray.empty), (.int .u64 0)])), 24⟩),
  (15, ⟨.pointer 134, 1, (some (.pointer none)), 8⟩),
  (16, ⟨.pointer 137, 1, (some (.pointer none)), 8⟩),
  (17, ⟨.pointer 145, 1, (some (.pointer none)), 8⟩),
  (18, ⟨.struct #[⟨ "typ", 17, 0, false, "", "internal/runtime/maps", 0⟩], 1, (some (.agg #[(.pointer none)])), 8⟩),
  (19, ⟨.struct #[⟨ "typ", 17, 0, false, "", "internal/runtime/maps", 0⟩], 1, (some (.agg #[(.pointer none)])), 8⟩),
  (21, ⟨.int .i32, 1, (some (.int .i32 0)), 4⟩),
  (22, ⟨.slice 40, 1, (some (.slice none 0 0)), 24⟩),
  (23, ⟨.struct #[⟨ "N", 3, 0, false, "", "", 0⟩, ⟨ "L", 22, 1, false, "", "", 8⟩], 2, (some (.agg #[(.int .i64 0), (.slice none 0 0)])), 32⟩),
  (24, ⟨.struct #[⟨ "N", 3, 0, false, "", "", 0⟩, ⟨ "L", 22, 1, false, "", "", 8⟩], 2, (some (.agg #[(.int .i64 0), (.slice none 0 0)])), 32⟩),
  (25, ⟨.int .u64, 1, (some (.int .u64 0)), 8⟩),
  (26, ⟨.array 2 25, 2, (some (.agg #[(.int .u64 0), (.int .u64 0)])), 16⟩),
  (27, ⟨.array 2 25, 2, (some (.agg #[(.int .u64 0), (.int .u64 0)])), 16⟩),
  (28, ⟨.func #[24] #[4] false, 1, (some .nilFunc), 8⟩),
  (29, ⟨.func #[24, 27] #[4] false, 1, (some .nilFunc), 8⟩),
  (30, ⟨.func #[] #[4] false, 1, (some .nilFunc), 8⟩),
  (31, ⟨.func #[24] #[24] false, 1, (some .nilFunc), 8⟩),
  (32, ⟨.int .i64, 1, (some (.int .i64 0)), 8⟩),
  (34, ⟨.func #[24] #[24, 32] false, 1, (some .nilFunc), 8⟩),
  (36, ⟨.func #[24] #[24, 4] false, 1, (some .nilFunc), 8⟩),
  (37, ⟨.func #[24, 24] #[4] false, 1, (some .nilFunc), 8⟩),
  (38, ⟨.slice 3, 1, (some (.slice none 0 0)), 24⟩),
  (39, ⟨.struct #[⟨ "Kind", 3, 0, false, "", "", 0⟩, ⟨ "Lit", 3, 1, false, "", "", 8⟩, ⟨ "In", 38, 2, false, "", "", 16⟩], 3, (some (.agg #[(.int .i64 0), (.int .i64 0), (.slice none 0 0)])), 40⟩),
  (40, ⟨.struct #[⟨ "Kind", 3, 0, false, "", "", 0⟩, ⟨ "Lit", 3, 1, false, "", "", 8⟩, ⟨ "In", 38, 2, false, "", "", 16⟩], 3, (some (.agg #[(.int .i64 0), (.int .i64 0), (.slice none 0 0)])), 40⟩),
  (41, ⟨.pointer 56, 1, (some (.pointer none)), 8⟩),
  (43, ⟨.func #[3] #[41, 32] false, 1, (some .nilFunc), 8⟩),
  (44, ⟨.pointer 45, 1, (some (.pointer none)), 8⟩),
  (45, ⟨.struct #[⟨ "N", 3, 0, false, "", "", 0⟩, ⟨ "L", 22, 1, false, "", "", 8⟩], 2, (some (.agg #[(.int .i64 0), (.slice none 0 0)])), 32⟩),
  (47, ⟨.func #[40] #[3, 32] false, 1, (some .nilFunc), 8⟩),
  (48, ⟨.func #[3] #[24, 32] false, 1, (some .nilFunc), 8⟩),
  (49, ⟨.func #[3] #[24] false, 1, (some .nilFunc), 8⟩),
  (50, ⟨.func #[3, 22, 38] #[4] false, 1, (some .nilFunc), 8⟩),
  (51, ⟨.func #[24] #[32] false, 1, (some .nilFunc), 8⟩),
  (52, ⟨.slice 4, 1, (some (.slice none 0 0)), 24⟩),
  (53, ⟨.func #[40, 40] #[4] false, 1, (some .nilFunc), 8⟩),
  (54, ⟨.map 9 3, 1, (some (.map none)), 8⟩),
  (55, ⟨.struct #[⟨ "n", 3, 0, false, "", "census/node", 0⟩, ⟨ "l", 22, 1, false, "", "census/node", 8⟩, ⟨ "made", 54, 2, false, "", "census/node", 32⟩], 3, (some (.agg #[(.int .i64 0), (.slice none 0 0), (.map none)])), 40⟩),
  (56, ⟨.struct #[⟨ "n", 3, 0, false, "", "census/node", 0⟩, ⟨ "l", 22, 1, false, "", "census/node", 8⟩, ⟨ "made", 54, 2, false, "", "census/node", 32⟩], 3, (some (.agg #[(.int .i64 0), (.slice none 0 0), (.map none)])), 40⟩),
  (57, ⟨.func #[3] #[4] false, 1, (some .nilFunc), 8⟩),
  (58, ⟨.func #[24] #[3] false, 1, (some .nilFunc), 8⟩),
  (59, ⟨.slice 27, 1, (some (.slice none 0 0)), 24⟩),
  (60, ⟨.func #[24] #[59] false, 1, (some .nilFunc), 8⟩),
  (61, ⟨.func #[24, 27, 27] #[4] false, 1, (some .nilFunc), 8⟩),
  (62, ⟨.func #[27, 3] #[4] false, 1, (some .nilFunc), 8⟩),
  (63, ⟨.func #[38, 57] #[4] false, 1, (some .nilFunc), 8⟩),
  (64, ⟨.func #[24, 27] #[52] false, 1, (some .nilFunc), 8⟩),
  (65, ⟨.func #[] #[24] false, 1, (some .nilFunc), 8⟩),
  (66, ⟨.func #[38] #[38] false, 1, (some .nilFunc), 8⟩),
  (67, ⟨.func #[40, 3, 3] #[4] false, 1, (some .nilFunc), 8⟩),
  (69, ⟨.func #[38, 3, 3, 3] #[38, 4] false, 1, (some .nilFunc), 8⟩),
  (70, ⟨.func #[38, 3, 3] #[38] false, 1, (some .nilFunc), 8⟩),
  (71, ⟨.func #[38, 3] #[4] false, 1, (some .nilFunc), 8⟩),
  (72, ⟨.func #[38, 38] #[4] false, 1, (some .nilFunc), 8⟩),
  (73, ⟨.func #[38] #[27] true, 1, (some .nilFunc), 8⟩),
  (74, ⟨.func #[3] #[3] false, 1, (some .nilFunc), 8⟩),
  (75, ⟨.func #[27, 27] #[27] false, 1, (some .nilFunc), 8⟩),
  (76, ⟨.int .u64, 1, (some (.int .u64 0)), 8⟩),
  (77, ⟨.func #[22, 22, 53] #[4] false, 1, (some .nilFunc), 8⟩),
  (78, ⟨.func #[38, 57] #[3] false, 1, (some .nilFunc), 8⟩),
  (79, ⟨.func #[3, 3] #[4] false, 1, (some .nilFunc), 8⟩),
  (80, ⟨.func #[40] #[9] false, 1, (some .nilFunc), 8⟩),
  (82, ⟨.map 3 4, 1, (some (.map none)), 8⟩),
  (83, ⟨.func #[3] #[] false, 1, (some .nilFunc), 8⟩),
  (84, ⟨.func #[38] #[] false, 1, (some .nilFunc), 8⟩),
  (85, ⟨.func #[27, 3] #[27] false, 1, (some .nilFunc), 8⟩),
  (87, ⟨.func #[3] #[3, 25, 4] false, 1, (some .nilFunc), 8⟩),
  (88, ⟨.pointer 91, 1, (some (.pointer none)), 8⟩),
  (89, ⟨.slice 5, 1, (some (.slice none 0 0)), 24⟩),
  (90, ⟨.struct #[⟨ "addr", 88, 0, false, "", "strings", 0⟩, ⟨ "buf", 89, 1, false, "", "strings", 8⟩], 2, (some (.agg #[(.pointer none), (.slice none 0 0)])), 32⟩),
  (91, ⟨.struct #[⟨ "addr", 88, 0, false, "", "strings", 0⟩, ⟨ "buf", 89, 1, false, "", "strings", 8⟩], 2, (some (.agg #[(.pointer none), (.slice none 0 0)])), 32⟩),
  (95, ⟨.func #[9] #[3, 93] false, 1, (some .nilFunc), 8⟩),
  (96, ⟨.func #[3] #[9] false, 1, (some .nilFunc), 8⟩),
  (97, ⟨.func #[] #[9] false, 1, (some .nilFunc), 8⟩),
  (98, ⟨.func #[38, 3] #[3] false, 1, (some .nilFunc), 8⟩),
  (99, ⟨.func #[38, 3, 3, 3] #[] false, 1, (some .nilFunc), 8⟩),
  (100, ⟨.func #[76] #[3] false, 1, (some .nilFunc), 8⟩),
  (101, ⟨.pointer 5, 1, (some (.pointer none)), 8⟩),
  (102, ⟨.func #[38, 3, 3] #[] false, 1, (some .nilFunc), 8⟩),
  (103, ⟨.int .i64, 1, (some (.int .i64 0)), 8⟩),
  (105, ⟨.func #[38, 3, 3] #[3, 103] false, 1, (some .nilFunc), 8⟩),
  (106, ⟨.func #[38, 3, 3] #[4] false, 1, (some .nilFunc), 8⟩),
  (107, ⟨.func #[38, 3, 3, 3] #[3] false, 1, (some .nilFunc), 8⟩),
  (108, ⟨.func #[38, 3, 3, 3] #[3, 4] false, 1, (some .nilFunc), 8⟩),
  (109, ⟨.func #[110] #[3] false, 1, (some .nilFunc), 8⟩),
  (110, ⟨.int .u32, 1, (some (.int .u32 0)), 4⟩),
  (111, ⟨.func #[25] #[3] false, 1, (some .nilFunc), 8⟩),
  (113, ⟨.func #[112] #[112] false, 1, (some .nilFunc), 8⟩),
  (114, ⟨.func #[2, 3] #[9] false, 1, (some .nilFunc), 8⟩),
  (115, ⟨.int .u64, 1, (some (.int .u64 0)), 8⟩),
  (116, ⟨.func #[3] #[76] false, 1, (some .nilFunc), 8⟩),
  (117, ⟨.func #[] #[25] false, 1, (some .nilFunc), 8⟩),
  (118, ⟨.func #[38, 3, 119] #[3] false, 1, (some .nilFunc), 8⟩),
  (119, ⟨.pointer 3, 1, (some (.pointer none)), 8⟩),
  (120, ⟨.func #[38, 3, 3, 3, 119] #[3] false, 1, (some .nilFunc), 8⟩),
  (121, ⟨.array 24 5, 24, (some (.agg #[(.int .u8 0), (.int .u8 0), (.int .u8 0), (.int .u8 0), (.int .u8 0), (.int .u8 0), (.int .u8 0), (.int .u8 0), (.int .u8 0), (.int .u8 0), (.int .u8 0), (.int .u8 0), (.int .u8 0), (.int .u8 0), (.int .u8 0), (.int .u8 0), (.int .u8 0), (.int .u8 0), (.int .u8 0), (.int .u8 0), (.int .u8 0), (.int .u8 0), (.int .u8 0), (.int .u8 0)])), 24⟩),
  (122, ⟨.func #[89, 25] #[] false, 1, (some .nilFunc), 8⟩),
  (124, ⟨.func #[89, 25, 3, 4, 4] #[89, 9] false, 1, (some .nilFunc), 8⟩),
  (125, ⟨.pointer 115, 1, (some (.pointer none)), 8⟩),
  (127, ⟨.func #[38, 3, 3, 119] #[3, 3] false, 1, (some .nilFunc), 8⟩),
  (128, ⟨.func #[4] #[3] false, 1, (some .nilFunc), 8⟩),
  (129, ⟨.array 20 25, 20, (some (.agg #[(.int .u64 0), (.int .u64 0), (.int .u64 0), (.int .u64 0), (.int .u64 0), (.int .u64 0), (.int .u64 0), (.int .u64 0), (.int .u64 0), (.int .u64 0), (.int .u64 0), (.int .u64 0), (.int .u64 0), (.int .u64 0), (.int .u64 0), (.int .u64 0), (.int .u64 0), (.int .u64 0), (.int .u64 0), (.int .u64 0)])), 160⟩),
  (130, ⟨.array 65 5, 65, (some (.agg #[(.int .u8 0), (.int .u8 0), (.int .u8 0), (.int .u8 0), (.int .u8 0), (.int .u8 0), (.int .u8 0), (.int .u8 0), (.int .u8 0), (.int .u8 0), (.int .u8 0), (.int .u8 0), (.int .u8 0), (.int .u8 0), (.int .u8 0), (.int .u8 0), (.int .u8 0), (.int .u8 0), (.int .u8 0), (.int .u8 0), (.int .u8 0), (.int .u8 0), (.int .u8 0), (.int .u8 0), (.int .u8 0), (.int .u8 0), (.int .u8 0), (.int .u8 0), (.int .u8 0), (.int .u8 0), (.int .u8 0), (.int .u8 0), (.int .u8 0), (.int .u8 0), (.int .u8 0), (.int .u8 0), (.int .u8 0), (.int .u8 0), (.int .u8 0), (.int .u8 0), (.int .u8 0), (.int .u8 0), (.int .u8 0), (.int .u8 0), (.int .u8 0), (.int .u8 0), (.int .u8 0), (.int .u8 0), (.int .u8 0), (.int .u8 0), (.int .u8 0), (.int .u8 0), (.int .u8 0), (.int .u8 0), (.int .u8 0), (.int .u8 0), (.int .u8 0), (.int .u8 0), (.int .u8 0), (.int .u8 0), (.int .u8 0), (.int .u8 0), (.int .u8 0), (.int .u8 0), (.int .u8 0)])), 65⟩),
  (131, ⟨.array 32 5, 32, (some (.agg #[(.int .u8 0), (.int .u8 0), (.int .u8 0), (.int .u8 0), (.int .u8 0), (.int .u8 0), (.int .u8 0), (.int .u8 0), (.int .u8 0), (.int .u8 0), (.int .u8 0), (.int .u8 0), (.int .u8 0), (.int .u8 0), (.int .u8 0), (.int .u8 0), (.int .u8 0), (.int .u8 0), (.int .u8 0), (.int .u8 0), (.int .u8 0), (.int .u8 0), (.int .u8 0), (.int .u8 0), (.int .u8 0), (.int .u8 0), (.int .u8 0), (.int .u8 0), (.int .u8 0), (.int .u8 0), (.int .u8 0), (.int .u8 0)])), 32⟩),
  (132, ⟨.array 64 5, 64, (some (.agg #[(.int .u8 0), (.int .u8 0), (.int .u8 0), (.int .u8 0), (.int .u8 0), (.int .u8 0), (.int .u8 0), (.int .u8 0), (.int .u8 0), (.int .u8 0), (.int .u8 0), (.int .u8 0), (.int .u8 0), (.int .u8 0), (.int .u8 0), (.int .u8 0), (.int .u8 0), (.int .u8 0), (.int .u8 0), (.int .u8 0), (.int .u8 0), (.int .u8 0), (.int .u8 0), (.int .u8 0), (.int .u8 0), (.int .u8 0), (.int .u8 0), (.int .u8 0), (.int .u8 0), (.int .u8 0), (.int .u8 0), (.int .u8 0), (.int .u8 0), (.int .u8 0), (.int .u8 0), (.int .u8 0), (.int .u8 0), (.int .u8 0), (.int .u8 0), (.int .u8 0), (.int .u8 0), (.int .u8 0), (.int .u8 0), (.int .u8 0), (.int .u8 0), (.int .u8 0), (.int .u8 0), (.int .u8 0), (.int .u8 0), (.int .u8 0), (.int .u8 0), (.int .u8 0), (.int .u8 0), (.int .u8 0), (.int .u8 0), (.int .u8 0), (.int .u8 0), (.int .u8 0), (.int .u8 0), (.int .u8 0), (.int .u8 0), (.int .u8 0), (.int .u8 0), (.int .u8 0)])), 64⟩),
  (133, ⟨.struct #[⟨ "_interface", 17, 0, false, "", "runtime", 0⟩, ⟨ "concrete", 17, 1, false, "", "runtime", 8⟩, ⟨ "asserted", 17, 2, false, "", "runtime", 16⟩, ⟨ "missingMethod", 9, 3, false, "", "runtime", 24⟩], 4, (some (.agg #[(.pointer none), (.pointer none), (.pointer none), (.string ByteArray.empty)])), 40⟩),
  (134, ⟨.struct #[⟨ "_interface", 17, 0, false, "", "runtime", 0⟩, ⟨ "concrete", 17, 1, false, "", "runtime", 8⟩, ⟨ "asserted", 17, 2, false, "", "runtime", 16⟩, ⟨ "missingMethod", 9, 3, false, "", "runtime", 24⟩], 4, (some (.agg #[(.pointer none), (.pointer none), (.pointer none), (.string ByteArray.empty)])), 40⟩),
  (135, ⟨.array 0 16, 0, (some (.agg #[])), 0⟩),
  (136, ⟨.struct #[⟨ "_", 135, 0, false, "", "runtime", 0⟩], 0, (some (.agg #[])), 0⟩),
  (137, ⟨.struct #[⟨ "_", 135, 0, false, "", "runtime", 0⟩], 0, (some (.agg #[])), 0⟩),
  (138, ⟨.func #[] #[3] false, 1, (some .nilFunc), 8⟩),
  (139, ⟨.int .u8, 1, (some (.int .u8 0)), 1⟩),
  (140, ⟨.int .u8, 1, (some (.int .u8 0)), 1⟩),
  (141, ⟨.func #[112, 112] #[4] false, 1, (some .nilFunc), 8⟩),
  (142, ⟨.int .i32, 1, (some (.int .i32 0)), 4⟩),
  (143, ⟨.int .i32, 1, (some (.int .i32 0)), 4⟩),
  (144, ⟨.struct #[⟨ "Size_", 12, 0, false, "", "", 0⟩, ⟨ "PtrBytes", 12, 1, false, "", "", 8⟩, ⟨ "Hash", 110, 2, false, "", "", 16⟩, ⟨ "TFlag", 139, 3, false, "", "", 20⟩, ⟨ "Align_", 5, 4, false, "", "", 21⟩, ⟨ "FieldAlign_", 5, 5, false, "", "", 22⟩, ⟨ "Kind_", 140, 6, false, "", "", 23⟩, ⟨ "Equal", 141, 7, false, "", "", 24⟩, ⟨ "GCData", 101, 8, false, "", "", 32⟩, ⟨ "Str", 142, 9, false, "", "", 40⟩, ⟨ "PtrToThis", 143, 10, false, "", "", 44⟩], 11, (some (.agg #[(.int .u64 0), (.int .u64 0), (.int .u32 0), (.int .u8 0), (.int .u8 0), (.int .u8 0), (.int .u8 0), .nilFunc, (.pointer none), (.int .i32 0), (.int .i32 0)])), 48⟩),
  (145, ⟨.struct #[⟨ "Size_", 12, 0, false, "", "", 0⟩, ⟨ "PtrBytes", 12, 1, false, "", "", 8⟩, ⟨ "Hash", 110, 2, false, "", "", 16⟩, ⟨ "TFlag", 139, 3, false, "", "", 20⟩, ⟨ "Align_", 5, 4, false, "", "", 21⟩, ⟨ "FieldAlign_", 5, 5, false, "", "", 22⟩, ⟨ "Kind_", 140, 6, false, "", "", 23⟩, ⟨ "Equal", 141, 7, false, "", "", 24⟩, ⟨ "GCData", 101, 8, false, "", "", 32⟩, ⟨ "Str", 142, 9, false, "", "", 40⟩, ⟨ "PtrToThis", 143, 10, false, "", "", 44⟩], 11, (some (.agg #[(.int .u64 0), (.int .u64 0), (.int .u32 0), (.int .u8 0), (.int .u8 0), (.int .u8 0), (.int .u8 0), .nilFunc, (.pointer none), (.int .i32 0), (.int .i32 0)])), 48⟩)
]
theorem hΓ : Fits Tryd.prog Γ :=
  .cons (
  .cons (
  .cons (
  .cons (
  .cons (
  .cons (
  .cons (
  .cons (
  .cons (
  .cons (
  .cons (
  .cons (
  .cons (
  .cons (
  .cons (
  .cons (
  .cons (
  .cons (
  .cons (
  .cons (
  .cons (
  .cons (
  .cons (
  .cons (
  .cons (
  .cons (
  .cons (
  .cons (
  .cons (
  .cons (
  .cons (
  .cons (
  .cons (
  .cons (
  .cons (
  .cons (
  .cons (
  .cons (
  .cons (
  .cons (
  .cons (
  .cons (
  .cons (
  .cons (
  .cons (
  .cons (
  .cons (
  .cons (
  .cons (
  .cons (
  .cons (
  .cons (
  .cons (
  .cons (
  .cons (
  .cons (
  .cons (
  .cons (
  .cons (
  .cons (
  .cons (
  .cons (
  .cons (
  .cons (
  .cons (
  .cons (
  .cons (
  .cons (
  .cons (
  .cons (
  .cons (
  .cons (
  .cons (
  .cons (
  .cons (
  .cons (
  .cons (
  .cons (
  .cons (
  .cons (
  .cons (
  .cons (
  .cons (
  .cons (
  .cons (
  .cons (
  .cons (
  .cons (
  .cons (
  .cons (
  .cons (
  .cons (
  .cons (
  .cons (
  .cons (
  .cons (
  .cons (
  .cons (
  .cons (
  .cons (
  .cons (
  .cons (
  .cons (
  .cons (
  .cons (
  .cons (
  .cons (
  .cons (
  .cons (
  .cons (
  .cons (
  .cons (
  .cons (
  .cons (
  .cons (
  .cons (
  .cons (
  .cons (
  .cons (
  .cons (
  .cons (
  .cons (
  .cons (
  .cons (
  .cons (
  .cons (
  .cons (
  .cons (
  .cons (
  .cons (
  Fits.nil _
  ) (by kernel_rfl) (by kernel_rfl)
  ) (by kernel_rfl) (by kernel_rfl)
  ) (by kernel_rfl) (by kernel_rfl)
  ) (by kernel_rfl) (by kernel_rfl)
  ) (by kernel_rfl) (by kernel_rfl)
  ) (by kernel_rfl) (by kernel_rfl)
  ) (by kernel_rfl) (by kernel_rfl)
  ) (by kernel_rfl) (by kernel_rfl)
  ) (by kernel_rfl) (by kernel_rfl)
  ) (by kernel_rfl) (by kernel_rfl)
  ) (by kernel_rfl) (by kernel_rfl)
  ) (by kernel_rfl) (by kernel_rfl)
  ) (by kernel_rfl) (by kernel_rfl)
  ) (by kernel_rfl) (by kernel_rfl)
  ) (by kernel_rfl) (by kernel_rfl)
  ) (by kernel_rfl) (by kernel_rfl)
  ) (by kernel_rfl) (by kernel_rfl)
  ) (by kernel_rfl) (by kernel_rfl)
  ) (by kernel_rfl) (by kernel_rfl)
  ) (by kernel_rfl) (by kernel_rfl)
  ) (by kernel_rfl) (by kernel_rfl)
  ) (by kernel_rfl) (by kernel_rfl)
  ) (by kernel_rfl) (by kernel_rfl)
  ) (by kernel_rfl) (by kernel_rfl)
  ) (by kernel_rfl) (by kernel_rfl)
  ) (by kernel_rfl) (by kernel_rfl)
  ) (by kernel_rfl) (by kernel_rfl)
  ) (by kernel_rfl) (by kernel_rfl)
  ) (by kernel_rfl) (by kernel_rfl)
  ) (by kernel_rfl) (by kernel_rfl)
  ) (by kernel_rfl) (by kernel_rfl)
  ) (by kernel_rfl) (by kernel_rfl)
  ) (by kernel_rfl) (by kernel_rfl)
  ) (by kernel_rfl) (by kernel_rfl)
  ) (by kernel_rfl) (by kernel_rfl)
  ) (by kernel_rfl) (by kernel_rfl)
  ) (by kernel_rfl) (by kernel_rfl)
  ) (by kernel_rfl) (by kernel_rfl)
  ) (by kernel_rfl) (by kernel_rfl)
  ) (by kernel_rfl) (by kernel_rfl)
  ) (by kernel_rfl) (by kernel_rfl)
  ) (by kernel_rfl) (by kernel_rfl)
  ) (by kernel_rfl) (by kernel_rfl)
  ) (by kernel_rfl) (by kernel_rfl)
  ) (by kernel_rfl) (by kernel_rfl)
  ) (by kernel_rfl) (by kernel_rfl)
  ) (by kernel_rfl) (by kernel_rfl)
  ) (by kernel_rfl) (by kernel_rfl)
  ) (by kernel_rfl) (by kernel_rfl)
  ) (by kernel_rfl) (by kernel_rfl)
  ) (by kernel_rfl) (by kernel_rfl)
  ) (by kernel_rfl) (by kernel_rfl)
  ) (by kernel_rfl) (by kernel_rfl)
  ) (by kernel_rfl) (by kernel_rfl)
  ) (by kernel_rfl) (by kernel_rfl)
  ) (by kernel_rfl) (by kernel_rfl)
  ) (by kernel_rfl) (by kernel_rfl)
  ) (by kernel_rfl) (by kernel_rfl)
  ) (by kernel_rfl) (by kernel_rfl)
  ) (by kernel_rfl) (by kernel_rfl)
  ) (by kernel_rfl) (by kernel_rfl)
  ) (by kernel_rfl) (by kernel_rfl)
  ) (by kernel_rfl) (by kernel_rfl)
  ) (by kernel_rfl) (by kernel_rfl)
  ) (by kernel_rfl) (by kernel_rfl)
  ) (by kernel_rfl) (by kernel_rfl)
  ) (by kernel_rfl) (by kernel_rfl)
  ) (by kernel_rfl) (by kernel_rfl)
  ) (by kernel_rfl) (by kernel_rfl)
  ) (by kernel_rfl) (by kernel_rfl)
  ) (by kernel_rfl) (by kernel_rfl)
  ) (by kernel_rfl) (by kernel_rfl)
  ) (by kernel_rfl) (by kernel_rfl)
  ) (by kernel_rfl) (by kernel_rfl)
  ) (by kernel_rfl) (by kernel_rfl)
  ) (by kernel_rfl) (by kernel_rfl)
  ) (by kernel_rfl) (by kernel_rfl)
  ) (by kernel_rfl) (by kernel_rfl)
  ) (by kernel_rfl) (by kernel_rfl)
  ) (by kernel_rfl) (by kernel_rfl)
  ) (by kernel_rfl) (by kernel_rfl)
  ) (by kernel_rfl) (by kernel_rfl)
  ) (by kernel_rfl) (by kernel_rfl)
  ) (by kernel_rfl) (by kernel_rfl)
  ) (by kernel_rfl) (by kernel_rfl)
  ) (by kernel_rfl) (by kernel_rfl)
  ) (by kernel_rfl) (by kernel_rfl)
  ) (by kernel_rfl) (by kernel_rfl)
  ) (by kernel_rfl) (by kernel_rfl)
  ) (by kernel_rfl) (by kernel_rfl)
  ) (by kernel_rfl) (by kernel_rfl)
  ) (by kernel_rfl) (by kernel_rfl)
  ) (by kernel_rfl) (by kernel_rfl)
  ) (by kernel_rfl) (by kernel_rfl)
  ) (by kernel_rfl) (by kernel_rfl)
  ) (by kernel_rfl) (by kernel_rfl)
  ) (by kernel_rfl) (by kernel_rfl)
  ) (by kernel_rfl) (by kernel_rfl)
  ) (by kernel_rfl) (by kernel_rfl)
  ) (by kernel_rfl) (by kernel_rfl)
  ) (by kernel_rfl) (by kernel_rfl)
  ) (by kernel_rfl) (by kernel_rfl)
  ) (by kernel_rfl) (by kernel_rfl)
  ) (by kernel_rfl) (by kernel_rfl)
  ) (by kernel_rfl) (by kernel_rfl)
  ) (by kernel_rfl) (by kernel_rfl)
  ) (by kernel_rfl) (by kernel_rfl)
  ) (by kernel_rfl) (by kernel_rfl)
  ) (by kernel_rfl) (by kernel_rfl)
  ) (by kernel_rfl) (by kernel_rfl)
  ) (by kernel_rfl) (by kernel_rfl)
  ) (by kernel_rfl) (by kernel_rfl)
  ) (by kernel_rfl) (by kernel_rfl)
  ) (by kernel_rfl) (by kernel_rfl)
  ) (by kernel_rfl) (by kernel_rfl)
  ) (by kernel_rfl) (by kernel_rfl)
  ) (by kernel_rfl) (by kernel_rfl)
  ) (by kernel_rfl) (by kernel_rfl)
  ) (by kernel_rfl) (by kernel_rfl)
  ) (by kernel_rfl) (by kernel_rfl)
  ) (by kernel_rfl) (by kernel_rfl)
  ) (by kernel_rfl) (by kernel_rfl)
  ) (by kernel_rfl) (by kernel_rfl)
  ) (by kernel_rfl) (by kernel_rfl)
  ) (by kernel_rfl) (by kernel_rfl)
  ) (by kernel_rfl) (by kernel_rfl)
  ) (by kernel_rfl) (by kernel_rfl)
  ) (by kernel_rfl) (by kernel_rfl)
  ) (by kernel_rfl) (by kernel_rfl)
  ) (by kernel_rfl) (by kernel_rfl)
end Go.Proofs.YtncnpmgohhgmfaaDoor
