/- THE SEAT's TABLE OF TYPES, WRITTEN BY PROGRAM (types.py). -/
import Derived.Test.YtinpcimogojefaaChecked
import Derived.Test.YtinpcimogojefaaCxM
import Derived.KernelRfl
namespace Go.Proofs.Ytinpcimogojefaa
open Go Go.Cx
set_option maxRecDepth 100000
def Γ : List (Nat × TI) := [
  (1, ⟨.func #[] #[] false, 1, (some .nilFunc), 8⟩),
  (2, ⟨.int .i64, 1, (some (.int .i64 0)), 8⟩),
  (3, ⟨.int .i64, 1, (some (.int .i64 0)), 8⟩),
  (4, ⟨.bool, 1, (some (.bool false)), 1⟩),
  (5, ⟨.int .u8, 1, (some (.int .u8 0)), 1⟩),
  (6, ⟨.int .u8, 1, (some (.int .u8 0)), 1⟩),
  (7, ⟨.struct #[⟨ "x", 2, 0, false, "", "runtime", 0⟩, ⟨ "y", 3, 1, false, "", "runtime", 8⟩, ⟨ "signed", 4, 2, false, "", "runtime", 16⟩, ⟨ "code", 6, 3, false, "", "runtime", 17⟩], 4, (some (.agg #[(.int .i64 0), (.int .i64 0), (.bool false), (.int .u8 0)])), 24⟩),
  (8, ⟨.struct #[⟨ "x", 2, 0, false, "", "runtime", 0⟩, ⟨ "y", 3, 1, false, "", "runtime", 8⟩, ⟨ "signed", 4, 2, false, "", "runtime", 16⟩, ⟨ "code", 6, 3, false, "", "runtime", 17⟩], 4, (some (.agg #[(.int .i64 0), (.int .i64 0), (.bool false), (.int .u8 0)])), 24⟩),
  (9, ⟨.string, 1, (some (.string ByteArray.empty)), 16⟩),
  (10, ⟨.string, 1, (some (.string ByteArray.empty)), 16⟩),
  (11, ⟨.string, 1, (some (.string ByteArray.empty)), 16⟩),
  (12, ⟨.int .u64, 1, (some (.int .u64 0)), 8⟩),
  (13, ⟨.struct #[⟨ "msg", 9, 0, false, "", "runtime", 0⟩, ⟨ "addr", 12, 1, false, "", "runtime", 16⟩], 2, (some (.agg #[(.string ByteArray.empty), (.int .u64 0)])), 24⟩),
  (14, ⟨.struct #[⟨ "msg", 9, 0, false, "", "runtime", 0⟩, ⟨ "addr", 12, 1, false, "", "runtime", 16⟩], 2, (some (.agg #[(.string ByteArray.empty), (.int .u64 0)])), 24⟩),
  (15, ⟨.pointer 138, 1, (some (.pointer none)), 8⟩),
  (16, ⟨.pointer 141, 1, (some (.pointer none)), 8⟩),
  (17, ⟨.pointer 150, 1, (some (.pointer none)), 8⟩),
  (18, ⟨.struct #[⟨ "typ", 17, 0, false, "", "internal/runtime/maps", 0⟩], 1, (some (.agg #[(.pointer none)])), 8⟩),
  (19, ⟨.struct #[⟨ "typ", 17, 0, false, "", "internal/runtime/maps", 0⟩], 1, (some (.agg #[(.pointer none)])), 8⟩),
  (21, ⟨.int .i32, 1, (some (.int .i32 0)), 4⟩),
  (22, ⟨.slice 3, 1, (some (.slice none 0 0)), 24⟩),
  (23, ⟨.struct #[⟨ "Coef", 22, 0, false, "", "", 0⟩, ⟨ "Lit", 22, 1, false, "", "", 24⟩, ⟨ "Least", 3, 2, false, "", "", 48⟩], 3, (some (.agg #[(.slice none 0 0), (.slice none 0 0), (.int .i64 0)])), 56⟩),
  (24, ⟨.struct #[⟨ "Coef", 22, 0, false, "", "", 0⟩, ⟨ "Lit", 22, 1, false, "", "", 24⟩, ⟨ "Least", 3, 2, false, "", "", 48⟩], 3, (some (.agg #[(.slice none 0 0), (.slice none 0 0), (.int .i64 0)])), 56⟩),
  (25, ⟨.func #[26] #[4] false, 1, (some .nilFunc), 8⟩),
  (26, ⟨.slice 24, 1, (some (.slice none 0 0)), 24⟩),
  (27, ⟨.func #[] #[4] false, 1, (some .nilFunc), 8⟩),
  (28, ⟨.func #[26] #[26] false, 1, (some .nilFunc), 8⟩),
  (29, ⟨.slice 22, 1, (some (.slice none 0 0)), 24⟩),
  (30, ⟨.int .i64, 1, (some (.int .i64 0)), 8⟩),
  (32, ⟨.func #[24] #[29, 30] false, 1, (some .nilFunc), 8⟩),
  (33, ⟨.func #[29, 29] #[4] false, 1, (some .nilFunc), 8⟩),
  (34, ⟨.func #[26, 26] #[4] false, 1, (some .nilFunc), 8⟩),
  (35, ⟨.func #[24] #[4] false, 1, (some .nilFunc), 8⟩),
  (36, ⟨.struct #[⟨ "N", 3, 0, false, "", "", 0⟩, ⟨ "L", 29, 1, false, "", "", 8⟩], 2, (some (.agg #[(.int .i64 0), (.slice none 0 0)])), 32⟩),
  (37, ⟨.struct #[⟨ "N", 3, 0, false, "", "", 0⟩, ⟨ "L", 29, 1, false, "", "", 8⟩], 2, (some (.agg #[(.int .i64 0), (.slice none 0 0)])), 32⟩),
  (39, ⟨.func #[3, 26] #[37, 30] false, 1, (some .nilFunc), 8⟩),
  (40, ⟨.func #[37, 37] #[4] false, 1, (some .nilFunc), 8⟩),
  (41, ⟨.func #[3, 26] #[4] false, 1, (some .nilFunc), 8⟩),
  (42, ⟨.func #[3, 26, 5] #[4] false, 1, (some .nilFunc), 8⟩),
  (44, ⟨.func #[24, 3] #[24, 30] false, 1, (some .nilFunc), 8⟩),
  (45, ⟨.func #[3, 22] #[24] true, 1, (some .nilFunc), 8⟩),
  (46, ⟨.func #[37] #[30] false, 1, (some .nilFunc), 8⟩),
  (47, ⟨.map 52 3, 1, (some (.map none)), 8⟩),
  (48, ⟨.slice 52, 1, (some (.slice none 0 0)), 24⟩),
  (49, ⟨.func #[37] #[48] false, 1, (some .nilFunc), 8⟩),
  (50, ⟨.int .u64, 1, (some (.int .u64 0)), 8⟩),
  (51, ⟨.array 2 50, 2, (some (.agg #[(.int .u64 0), (.int .u64 0)])), 16⟩),
  (52, ⟨.array 2 50, 2, (some (.agg #[(.int .u64 0), (.int .u64 0)])), 16⟩),
  (53, ⟨.func #[52, 52] #[52] false, 1, (some .nilFunc), 8⟩),
  (54, ⟨.func #[3] #[52] false, 1, (some .nilFunc), 8⟩),
  (55, ⟨.int .u64, 1, (some (.int .u64 0)), 8⟩),
  (56, ⟨.func #[26, 52] #[4] false, 1, (some .nilFunc), 8⟩),
  (58, ⟨.func #[37, 52, 3] #[52, 3, 4] false, 1, (some .nilFunc), 8⟩),
  (59, ⟨.func #[37, 52] #[4] false, 1, (some .nilFunc), 8⟩),
  (60, ⟨.func #[3, 26, 52] #[4] false, 1, (some .nilFunc), 8⟩),
  (61, ⟨.func #[] #[37] false, 1, (some .nilFunc), 8⟩),
  (62, ⟨.func #[22, 22] #[4] false, 1, (some .nilFunc), 8⟩),
  (64, ⟨.func #[24, 3] #[29, 3] false, 1, (some .nilFunc), 8⟩),
  (66, ⟨.func #[24, 3] #[29, 4] false, 1, (some .nilFunc), 8⟩),
  (67, ⟨.func #[24, 3] #[30] false, 1, (some .nilFunc), 8⟩),
  (68, ⟨.pointer 70, 1, (some (.pointer none)), 8⟩),
  (69, ⟨.struct #[⟨ "t", 37, 0, false, "", "census/encode", 0⟩], 2, (some (.agg #[(.int .i64 0), (.slice none 0 0)])), 32⟩),
  (70, ⟨.struct #[⟨ "t", 37, 0, false, "", "census/encode", 0⟩], 2, (some (.agg #[(.int .i64 0), (.slice none 0 0)])), 32⟩),
  (71, ⟨.func #[24, 29, 3] #[] false, 1, (some .nilFunc), 8⟩),
  (73, ⟨.func #[37, 24] #[37, 4] false, 1, (some .nilFunc), 8⟩),
  (74, ⟨.struct #[⟨ "yes", 3, 0, false, "", "census/pseudo", 0⟩, ⟨ "no", 3, 1, false, "", "census/pseudo", 8⟩], 2, (some (.agg #[(.int .i64 0), (.int .i64 0)])), 16⟩),
  (75, ⟨.struct #[⟨ "yes", 3, 0, false, "", "census/pseudo", 0⟩, ⟨ "no", 3, 1, false, "", "census/pseudo", 8⟩], 2, (some (.agg #[(.int .i64 0), (.int .i64 0)])), 16⟩),
  (76, ⟨.array 129 75, 258, (some (.agg #[(.int .i64 0), (.int .i64 0), (.int .i64 0), (.int .i64 0), (.int .i64 0), (.int .i64 0), (.int .i64 0), (.int .i64 0), (.int .i64 0), (.int .i64 0), (.int .i64 0), (.int .i64 0), (.int .i64 0), (.int .i64 0), (.int .i64 0), (.int .i64 0), (.int .i64 0), (.int .i64 0), (.int .i64 0), (.int .i64 0), (.int .i64 0), (.int .i64 0), (.int .i64 0), (.int .i64 0), (.int .i64 0), (.int .i64 0), (.int .i64 0), (.int .i64 0), (.int .i64 0), (.int .i64 0), (.int .i64 0), (.int .i64 0), (.int .i64 0), (.int .i64 0), (.int .i64 0), (.int .i64 0), (.int .i64 0), (.int .i64 0), (.int .i64 0), (.int .i64 0), (.int .i64 0), (.int .i64 0), (.int .i64 0), (.int .i64 0), (.int .i64 0), (.int .i64 0), (.int .i64 0), (.int .i64 0), (.int .i64 0), (.int .i64 0), (.int .i64 0), (.int .i64 0), (.int .i64 0), (.int .i64 0), (.int .i64 0), (.int .i64 0), (.int .i64 0), (.int .i64 0), (.int .i64 0), (.int .i64 0), (.int .i64 0), (.int .i64 0), (.int .i64 0), (.int .i64 0), (.int .i64 0), (.int .i64 0), (.int .i64 0), (.int .i64 0), (.int .i64 0), (.int .i64 0), (.int .i64 0), (.int .i64 0), (.int .i64 0), (.int .i64 0), (.int .i64 0), (.int .i64 0), (.int .i64 0), (.int .i64 0), (.int .i64 0), (.int .i64 0), (.int .i64 0), (.int .i64 0), (.int .i64 0), (.int .i64 0), (.int .i64 0), (.int .i64 0), (.int .i64 0), (.int .i64 0), (.int .i64 0), (.int .i64 0), (.int .i64 0), (.int .i64 0), (.int .i64 0), (.int .i64 0), (.int .i64 0), (.int .i64 0), (.int .i64 0), (.int .i64 0), (.int .i64 0), (.int .i64 0), (.int .i64 0), (.int .i64 0), (.int .i64 0), (.int .i64 0), (.int .i64 0), (.int .i64 0), (.int .i64 0), (.int .i64 0), (.int .i64 0), (.int .i64 0), (.int .i64 0), (.int .i64 0), (.int .i64 0), (.int .i64 0), (.int .i64 0), (.int .i64 0), (.int .i64 0), (.int .i64 0), (.int .i64 0), (.int .i64 0), (.int .i64 0), (.int .i64 0), (.int .i64 0), (.int .i64 0), (.int .i64 0), (.int .i64 0), (.int .i64 0), (.int .i64 0), (.int .i64 0), (.int .i64 0), (.int .i64 0), (.int .i64 0), (.int .i64 0), (.int .i64 0), (.int .i64 0), (.int .i64 0), (.int .i64 0), (.int .i64 0), (.int .i64 0), (.int .i64 0), (.int .i64 0), (.int .i64 0), (.int .i64 0), (.int .i64 0), (.int .i64 0), (.int .i64 0), (.int .i64 0), (.int .i64 0), (.int .i64 0), (.int .i64 0), (.int .i64 0), (.int .i64 0), (.int .i64 0), (.int .i64 0), (.int .i64 0), (.int .i64 0), (.int .i64 0), (.int .i64 0), (.int .i64 0), (.int .i64 0), (.int .i64 0), (.int .i64 0), (.int .i64 0), (.int .i64 0), (.int .i64 0), (.int .i64 0), (.int .i64 0), (.int .i64 0), (.int .i64 0), (.int .i64 0), (.int .i64 0), (.int .i64 0), (.int .i64 0), (.int .i64 0), (.int .i64 0), (.int .i64 0), (.int .i64 0), (.int .i64 0), (.int .i64 0), (.int .i64 0), (.int .i64 0), (.int .i64 0), (.int .i64 0), (.int .i64 0), (.int .i64 0), (.int .i64 0), (.int .i64 0), (.int .i64 0), (.int .i64 0), (.int .i64 0), (.int .i64 0), (.int .i64 0), (.int .i64 0), (.int .i64 0), (.int .i64 0), (.int .i64 0), (.int .i64 0), (.int .i64 0), (.int .i64 0), (.int .i64 0), (.int .i64 0), (.int .i64 0), (.int .i64 0), (.int .i64 0), (.int .i64 0), (.int .i64 0), (.int .i64 0), (.int .i64 0), (.int .i64 0), (.int .i64 0), (.int .i64 0), (.int .i64 0), (.int .i64 0), (.int .i64 0), (.int .i64 0), (.int .i64 0), (.int .i64 0), (.int .i64 0), (.int .i64 0), (.int .i64 0), (.int .i64 0), (.int .i64 0), (.int .i64 0), (.int .i64 0), (.int .i64 0), (.int .i64 0), (.int .i64 0), (.int .i64 0), (.int .i64 0), (.int .i64 0), (.int .i64 0), (.int .i64 0), (.int .i64 0), (.int .i64 0), (.int .i64 0), (.int .i64 0), (.int .i64 0), (.int .i64 0), (.int .i64 0), (.int .i64 0), (.int .i64 0), (.int .i64 0), (.int .i64 0), (.int .i64 0), (.int .i64 0), (.int .i64 0), (.int .i64 0), (.int .i64 0), (.int .i64 0), (.int .i64 0), (.int .i64 0), (.int .i64 0), (.int .i64 0), (.int .i64 0), (.int .i64 0), (.int .i64 0), (.int .i64 0), (.int .i64 0)])), 2064⟩),
  (77, ⟨.func #[3, 3] #[4] false, 1, (some .nilFunc), 8⟩),
  (78, ⟨.func #[3, 3] #[52] false, 1, (some .nilFunc), 8⟩),
  (79, ⟨.func #[52, 3] #[52] false, 1, (some .nilFunc), 8⟩),
  (80, ⟨.func #[24, 52] #[4] false, 1, (some .nilFunc), 8⟩),
  (81, ⟨.func #[52, 3] #[4] false, 1, (some .nilFunc), 8⟩),
  (82, ⟨.func #[52, 52] #[4] false, 1, (some .nilFunc), 8⟩),
  (83, ⟨.func #[52, 22] #[4] false, 1, (some .nilFunc), 8⟩),
  (84, ⟨.map 3 4, 1, (some (.map none)), 8⟩),
  (85, ⟨.func #[84, 86] #[] false, 1, (some .nilFunc), 8⟩),
  (86, ⟨.func #[3, 4] #[4] false, 1, (some .nilFunc), 8⟩),
  (87, ⟨.func #[89] #[22] false, 1, (some .nilFunc), 8⟩),
  (88, ⟨.func #[107] #[] false, 1, (some .nilFunc), 8⟩),
  (89, ⟨.func #[107] #[] false, 1, (some .nilFunc), 8⟩),
  (90, ⟨.func #[84] #[89] false, 1, (some .nilFunc), 8⟩),
  (91, ⟨.func #[24, 3] #[3] false, 1, (some .nilFunc), 8⟩),
  (92, ⟨.func #[22, 3] #[22] false, 1, (some .nilFunc), 8⟩),
  (93, ⟨.func #[22] #[] true, 1, (some .nilFunc), 8⟩),
  (94, ⟨.map 3 3, 1, (some (.map none)), 8⟩),
  (95, ⟨.func #[22, 3] #[94] false, 1, (some .nilFunc), 8⟩),
  (97, ⟨.func #[3] #[3] false, 1, (some .nilFunc), 8⟩),
  (98, ⟨.struct #[⟨ "Lit", 3, 0, false, "", "", 0⟩, ⟨ "True", 4, 1, false, "", "", 8⟩], 2, (some (.agg #[(.int .i64 0), (.bool false)])), 16⟩),
  (99, ⟨.struct #[⟨ "Lit", 3, 0, false, "", "", 0⟩, ⟨ "True", 4, 1, false, "", "", 8⟩], 2, (some (.agg #[(.int .i64 0), (.bool false)])), 16⟩),
  (100, ⟨.func #[3] #[99] false, 1, (some .nilFunc), 8⟩),
  (101, ⟨.func #[24, 29, 22, 3, 3] #[99] false, 1, (some .nilFunc), 8⟩),
  (102, ⟨.func #[37, 99, 99, 99] #[37] false, 1, (some .nilFunc), 8⟩),
  (103, ⟨.func #[99] #[99] false, 1, (some .nilFunc), 8⟩),
  (105, ⟨.func #[3] #[3, 50, 4] false, 1, (some .nilFunc), 8⟩),
  (106, ⟨.func #[22, 107] #[4] false, 1, (some .nilFunc), 8⟩),
  (107, ⟨.func #[3] #[4] false, 1, (some .nilFunc), 8⟩),
  (108, ⟨.func #[22] #[] false, 1, (some .nilFunc), 8⟩),
  (109, ⟨.func #[22, 3] #[4] false, 1, (some .nilFunc), 8⟩),
  (110, ⟨.func #[22, 107] #[22] false, 1, (some .nilFunc), 8⟩),
  (111, ⟨.slice 99, 1, (some (.slice none 0 0)), 24⟩),
  (112, ⟨.func #[22, 107] #[3] false, 1, (some .nilFunc), 8⟩),
  (113, ⟨.func #[22, 89] #[22] false, 1, (some .nilFunc), 8⟩),
  (114, ⟨.func #[22, 3, 3, 3] #[] false, 1, (some .nilFunc), 8⟩),
  (115, ⟨.func #[55] #[3] false, 1, (some .nilFunc), 8⟩),
  (116, ⟨.func #[22, 3] #[3] false, 1, (some .nilFunc), 8⟩),
  (117, ⟨.func #[22, 3, 3] #[] false, 1, (some .nilFunc), 8⟩),
  (118, ⟨.int .i64, 1, (some (.int .i64 0)), 8⟩),
  (120, ⟨.func #[22, 3, 3] #[3, 118] false, 1, (some .nilFunc), 8⟩),
  (121, ⟨.func #[22, 3, 3] #[4] false, 1, (some .nilFunc), 8⟩),
  (122, ⟨.func #[22, 3, 3, 3] #[3] false, 1, (some .nilFunc), 8⟩),
  (123, ⟨.func #[22, 3, 3, 3] #[3, 4] false, 1, (some .nilFunc), 8⟩),
  (124, ⟨.func #[125] #[3] false, 1, (some .nilFunc), 8⟩),
  (125, ⟨.int .u32, 1, (some (.int .u32 0)), 4⟩),
  (126, ⟨.func #[50] #[3] false, 1, (some .nilFunc), 8⟩),
  (127, ⟨.int .u64, 1, (some (.int .u64 0)), 8⟩),
  (128, ⟨.func #[3] #[55] false, 1, (some .nilFunc), 8⟩),
  (129, ⟨.func #[] #[50] false, 1, (some .nilFunc), 8⟩),
  (130, ⟨.func #[22, 3, 131] #[3] false, 1, (some .nilFunc), 8⟩),
  (131, ⟨.pointer 3, 1, (some (.pointer none)), 8⟩),
  (132, ⟨.func #[22, 3, 3, 3, 131] #[3] false, 1, (some .nilFunc), 8⟩),
  (133, ⟨.pointer 127, 1, (some (.pointer none)), 8⟩),
  (135, ⟨.func #[22, 3, 3, 131] #[3, 3] false, 1, (some .nilFunc), 8⟩),
  (136, ⟨.func #[] #[9] false, 1, (some .nilFunc), 8⟩),
  (137, ⟨.struct #[⟨ "_interface", 17, 0, false, "", "runtime", 0⟩, ⟨ "concrete", 17, 1, false, "", "runtime", 8⟩, ⟨ "asserted", 17, 2, false, "", "runtime", 16⟩, ⟨ "missingMethod", 9, 3, false, "", "runtime", 24⟩], 4, (some (.agg #[(.pointer none), (.pointer none), (.pointer none), (.string ByteArray.empty)])), 40⟩),
  (138, ⟨.struct #[⟨ "_interface", 17, 0, false, "", "runtime", 0⟩, ⟨ "concrete", 17, 1, false, "", "runtime", 8⟩, ⟨ "asserted", 17, 2, false, "", "runtime", 16⟩, ⟨ "missingMethod", 9, 3, false, "", "runtime", 24⟩], 4, (some (.agg #[(.pointer none), (.pointer none), (.pointer none), (.string ByteArray.empty)])), 40⟩),
  (139, ⟨.array 0 16, 0, (some (.agg #[])), 0⟩),
  (140, ⟨.struct #[⟨ "_", 139, 0, false, "", "runtime", 0⟩], 0, (some (.agg #[])), 0⟩),
  (141, ⟨.struct #[⟨ "_", 139, 0, false, "", "runtime", 0⟩], 0, (some (.agg #[])), 0⟩),
  (142, ⟨.func #[] #[3] false, 1, (some .nilFunc), 8⟩),
  (143, ⟨.int .u8, 1, (some (.int .u8 0)), 1⟩),
  (144, ⟨.int .u8, 1, (some (.int .u8 0)), 1⟩),
  (145, ⟨.func #[151, 151] #[4] false, 1, (some .nilFunc), 8⟩),
  (146, ⟨.pointer 5, 1, (some (.pointer none)), 8⟩),
  (147, ⟨.int .i32, 1, (some (.int .i32 0)), 4⟩),
  (148, ⟨.int .i32, 1, (some (.int .i32 0)), 4⟩),
  (149, ⟨.struct #[⟨ "Size_", 12, 0, false, "", "", 0⟩, ⟨ "PtrBytes", 12, 1, false, "", "", 8⟩, ⟨ "Hash", 125, 2, false, "", "", 16⟩, ⟨ "TFlag", 143, 3, false, "", "", 20⟩, ⟨ "Align_", 5, 4, false, "", "", 21⟩, ⟨ "FieldAlign_", 5, 5, false, "", "", 22⟩, ⟨ "Kind_", 144, 6, false, "", "", 23⟩, ⟨ "Equal", 145, 7, false, "", "", 24⟩, ⟨ "GCData", 146, 8, false, "", "", 32⟩, ⟨ "Str", 147, 9, false, "", "", 40⟩, ⟨ "PtrToThis", 148, 10, false, "", "", 44⟩], 11, (some (.agg #[(.int .u64 0), (.int .u64 0), (.int .u32 0), (.int .u8 0), (.int .u8 0), (.int .u8 0), (.int .u8 0), .nilFunc, (.pointer none), (.int .i32 0), (.int .i32 0)])), 48⟩),
  (150, ⟨.struct #[⟨ "Size_", 12, 0, false, "", "", 0⟩, ⟨ "PtrBytes", 12, 1, false, "", "", 8⟩, ⟨ "Hash", 125, 2, false, "", "", 16⟩, ⟨ "TFlag", 143, 3, false, "", "", 20⟩, ⟨ "Align_", 5, 4, false, "", "", 21⟩, ⟨ "FieldAlign_", 5, 5, false, "", "", 22⟩, ⟨ "Kind_", 144, 6, false, "", "", 23⟩, ⟨ "Equal", 145, 7, false, "", "", 24⟩, ⟨ "GCData", 146, 8, false, "", "", 32⟩, ⟨ "Str", 147, 9, false, "", "", 40⟩, ⟨ "PtrToThis", 148, 10, false, "", "", 44⟩], 11, (some (.agg #[(.int .u64 0), (.int .u64 0), (.int .u32 0), (.int .u8 0), (.int .u8 0), (.int .u8 0), (.int .u8 0), .nilFunc, (.pointer none), (.int .i32 0), (.int .i32 0)])), 48⟩)
]
theorem hΓ : Fits Try.prog Γ :=
  .cons (
  .cons (
  .cons (
  .cons (
  .cons (
  .cons (
  .cons (
  .cons (
  .cons (
  .cons (
  .cons (
  .cons (
  .cons (
  .cons (
  .cons (
  .cons (
  .cons (
  .cons (
  .cons (
  .cons (
  .cons (
  .cons (
  .cons (
  .cons (
  .cons (
  .cons (
  .cons (
  .cons (
  .cons (
  .cons (
  .cons (
  .cons (
  .cons (
  .cons (
  .cons (
  .cons (
  .cons (
  .cons (
  .cons (
  .cons (
  .cons (
  .cons (
  .cons (
  .cons (
  .cons (
  .cons (
  .cons (
  .cons (
  .cons (
  .cons (
  .cons (
  .cons (
  .cons (
  .cons (
  .cons (
  .cons (
  .cons (
  .cons (
  .cons (
  .cons (
  .cons (
  .cons (
  .cons (
  .cons (
  .cons (
  .cons (
  .cons (
  .cons (
  .cons (
  .cons (
  .cons (
  .cons (
  .cons (
  .cons (
  .cons (
  .cons (
  .cons (
  .cons (
  .cons (
  .cons (
  .cons (
  .cons (
  .cons (
  .cons (
  .cons (
  .cons (
  .cons (
  .cons (
  .cons (
  .cons (
  .cons (
  .cons (
  .cons (
  .cons (
  .cons (
  .cons (
  .cons (
  .cons (
  .cons (
  .cons (
  .cons (
  .cons (
  .cons (
  .cons (
  .cons (
  .cons (
  .cons (
  .cons (
  .cons (
  .cons (
  .cons (
  .cons (
  .cons (
  .cons (
  .cons (
  .cons (
  .cons (
  .cons (
  .cons (
  .cons (
  .cons (
  .cons (
  .cons (
  .cons (
  .cons (
  .cons (
  .cons (
  .cons (
  .cons (
  .cons (
  .cons (
  .cons (
  .cons (
  .cons (
  .cons (
  .cons (
  .cons (
  .cons (
  Fits.nil _
  ) (by kernel_rfl) (by kernel_rfl)
  ) (by kernel_rfl) (by kernel_rfl)
  ) (by kernel_rfl) (by kernel_rfl)
  ) (by kernel_rfl) (by kernel_rfl)
  ) (by kernel_rfl) (by kernel_rfl)
  ) (by kernel_rfl) (by kernel_rfl)
  ) (by kernel_rfl) (by kernel_rfl)
  ) (by kernel_rfl) (by kernel_rfl)
  ) (by kernel_rfl) (by kernel_rfl)
  ) (by kernel_rfl) (by kernel_rfl)
  ) (by kernel_rfl) (by kernel_rfl)
  ) (by kernel_rfl) (by kernel_rfl)
  ) (by kernel_rfl) (by kernel_rfl)
  ) (by kernel_rfl) (by kernel_rfl)
  ) (by kernel_rfl) (by kernel_rfl)
  ) (by kernel_rfl) (by kernel_rfl)
  ) (by kernel_rfl) (by kernel_rfl)
  ) (by kernel_rfl) (by kernel_rfl)
  ) (by kernel_rfl) (by kernel_rfl)
  ) (by kernel_rfl) (by kernel_rfl)
  ) (by kernel_rfl) (by kernel_rfl)
  ) (by kernel_rfl) (by kernel_rfl)
  ) (by kernel_rfl) (by kernel_rfl)
  ) (by kernel_rfl) (by kernel_rfl)
  ) (by kernel_rfl) (by kernel_rfl)
  ) (by kernel_rfl) (by kernel_rfl)
  ) (by kernel_rfl) (by kernel_rfl)
  ) (by kernel_rfl) (by kernel_rfl)
  ) (by kernel_rfl) (by kernel_rfl)
  ) (by kernel_rfl) (by kernel_rfl)
  ) (by kernel_rfl) (by kernel_rfl)
  ) (by kernel_rfl) (by kernel_rfl)
  ) (by kernel_rfl) (by kernel_rfl)
  ) (by kernel_rfl) (by kernel_rfl)
  ) (by kernel_rfl) (by kernel_rfl)
  ) (by kernel_rfl) (by kernel_rfl)
  ) (by kernel_rfl) (by kernel_rfl)
  ) (by kernel_rfl) (by kernel_rfl)
  ) (by kernel_rfl) (by kernel_rfl)
  ) (by kernel_rfl) (by kernel_rfl)
  ) (by kernel_rfl) (by kernel_rfl)
  ) (by kernel_rfl) (by kernel_rfl)
  ) (by kernel_rfl) (by kernel_rfl)
  ) (by kernel_rfl) (by kernel_rfl)
  ) (by kernel_rfl) (by kernel_rfl)
  ) (by kernel_rfl) (by kernel_rfl)
  ) (by kernel_rfl) (by kernel_rfl)
  ) (by kernel_rfl) (by kernel_rfl)
  ) (by kernel_rfl) (by kernel_rfl)
  ) (by kernel_rfl) (by kernel_rfl)
  ) (by kernel_rfl) (by kernel_rfl)
  ) (by kernel_rfl) (by kernel_rfl)
  ) (by kernel_rfl) (by kernel_rfl)
  ) (by kernel_rfl) (by kernel_rfl)
  ) (by kernel_rfl) (by kernel_rfl)
  ) (by kernel_rfl) (by kernel_rfl)
  ) (by kernel_rfl) (by kernel_rfl)
  ) (by kernel_rfl) (by kernel_rfl)
  ) (by kernel_rfl) (by kernel_rfl)
  ) (by kernel_rfl) (by kernel_rfl)
  ) (by kernel_rfl) (by kernel_rfl)
  ) (by kernel_rfl) (by kernel_rfl)
  ) (by kernel_rfl) (by kernel_rfl)
  ) (by kernel_rfl) (by kernel_rfl)
  ) (by kernel_rfl) (by kernel_rfl)
  ) (by kernel_rfl) (by kernel_rfl)
  ) (by kernel_rfl) (by kernel_rfl)
  ) (by kernel_rfl) (by kernel_rfl)
  ) (by kernel_rfl) (by kernel_rfl)
  ) (by kernel_rfl) (by kernel_rfl)
  ) (by kernel_rfl) (by kernel_rfl)
  ) (by kernel_rfl) (by kernel_rfl)
  ) (by kernel_rfl) (by kernel_rfl)
  ) (by kernel_rfl) (by kernel_rfl)
  ) (by kernel_rfl) (by kernel_rfl)
  ) (by kernel_rfl) (by kernel_rfl)
  ) (by kernel_rfl) (by kernel_rfl)
  ) (by kernel_rfl) (by kernel_rfl)
  ) (by kernel_rfl) (by kernel_rfl)
  ) (by kernel_rfl) (by kernel_rfl)
  ) (by kernel_rfl) (by kernel_rfl)
  ) (by kernel_rfl) (by kernel_rfl)
  ) (by kernel_rfl) (by kernel_rfl)
  ) (by kernel_rfl) (by kernel_rfl)
  ) (by kernel_rfl) (by kernel_rfl)
  ) (by kernel_rfl) (by kernel_rfl)
  ) (by kernel_rfl) (by kernel_rfl)
  ) (by kernel_rfl) (by kernel_rfl)
  ) (by kernel_rfl) (by kernel_rfl)
  ) (by kernel_rfl) (by kernel_rfl)
  ) (by kernel_rfl) (by kernel_rfl)
  ) (by kernel_rfl) (by kernel_rfl)
  ) (by kernel_rfl) (by kernel_rfl)
  ) (by kernel_rfl) (by kernel_rfl)
  ) (by kernel_rfl) (by kernel_rfl)
  ) (by kernel_rfl) (by kernel_rfl)
  ) (by kernel_rfl) (by kernel_rfl)
  ) (by kernel_rfl) (by kernel_rfl)
  ) (by kernel_rfl) (by kernel_rfl)
  ) (by kernel_rfl) (by kernel_rfl)
  ) (by kernel_rfl) (by kernel_rfl)
  ) (by kernel_rfl) (by kernel_rfl)
  ) (by kernel_rfl) (by kernel_rfl)
  ) (by kernel_rfl) (by kernel_rfl)
  ) (by kernel_rfl) (by kernel_rfl)
  ) (by kernel_rfl) (by kernel_rfl)
  ) (by kernel_rfl) (by kernel_rfl)
  ) (by kernel_rfl) (by kernel_rfl)
  ) (by kernel_rfl) (by kernel_rfl)
  ) (by kernel_rfl) (by kernel_rfl)
  ) (by kernel_rfl) (by kernel_rfl)
  ) (by kernel_rfl) (by kernel_rfl)
  ) (by kernel_rfl) (by kernel_rfl)
  ) (by kernel_rfl) (by kernel_rfl)
  ) (by kernel_rfl) (by kernel_rfl)
  ) (by kernel_rfl) (by kernel_rfl)
  ) (by kernel_rfl) (by kernel_rfl)
  ) (by kernel_rfl) (by kernel_rfl)
  ) (by kernel_rfl) (by kernel_rfl)
  ) (by kernel_rfl) (by kernel_rfl)
  ) (by kernel_rfl) (by kernel_rfl)
  ) (by kernel_rfl) (by kernel_rfl)
  ) (by kernel_rfl) (by kernel_rfl)
  ) (by kernel_rfl) (by kernel_rfl)
  ) (by kernel_rfl) (by kernel_rfl)
  ) (by kernel_rfl) (by kernel_rfl)
  ) (by kernel_rfl) (by kernel_rfl)
  ) (by kernel_rfl) (by kernel_rfl)
  ) (by kernel_rfl) (by kernel_rfl)
  ) (by kernel_rfl) (by kernel_rfl)
  ) (by kernel_rfl) (by kernel_rfl)
  ) (by kernel_rfl) (by kernel_rfl)
  ) (by kernel_rfl) (by kernel_rfl)
  ) (by kernel_rfl) (by kernel_rfl)
  ) (by kernel_rfl) (by kernel_rfl)
  ) (by kernel_rfl) (by kernel_rfl)
  ) (by kernel_rfl) (by kernel_rfl)
  ) (by kernel_rfl) (by kernel_rfl)
end Go.Proofs.Ytinpcimogojefaa
