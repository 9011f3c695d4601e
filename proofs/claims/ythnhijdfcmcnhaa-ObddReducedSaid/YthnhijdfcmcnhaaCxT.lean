/- THE SEAT's TABLE OF TYPES, WRITTEN BY PROGRAM (types.py). -/
import Derived.Test.YthnhijdfcmcnhaaChecked
import Derived.Test.YthnhijdfcmcnhaaCxM
import Derived.KernelRfl
namespace Go.Proofs.Ythnhijdfcmcnhaa
open Go Go.Cx
set_option maxRecDepth 100000
def Γ : List (Nat × TI) := [
  (1, ⟨.func #[] #[] false, 1, (some .nilFunc), 8⟩),
  (2, ⟨.int .i64, 1, (some (.int .i64 0)), 8⟩),
  (3, ⟨.int .i64, 1, (some (.int .i64 0)), 8⟩),
  (4, ⟨.bool, 1, (some (.bool false)), 1⟩),
  (5, ⟨.int .u8, 1, (some (.int .u8 0)), 1⟩),
  (6, ⟨.int .u8, 1, (some (.int .u8 0)), 1⟩),
  (7, ⟨.struct #[⟨ "x", 2, 0, false, "", "runtime", 0⟩, ⟨ "y", 3, 1, false, "", "runtime", 8⟩, ⟨ "signed", 4, 2, false, "", "runtime", 16⟩, ⟨ "code", 6, 3, false, "", "runtime", 17⟩], 4, (some (.agg #[(.int .i64 0), (.int .i64 0), (.bool false), (.int .u8 0)])), 24⟩),
  (8, ⟨.struct #[⟨ "x", 2, 0, false, "", "runtime", 0⟩, ⟨ "y", 3, 1, false, "", "runtime", 8⟩, ⟨ "signed", 4, 2, false, "", "runtime", 16⟩, ⟨ "code", 6, 3, false, "", "runtime", 17⟩], 4, (some (.agg #[(.int .i64 0), (.int .i64 0), (.bool false), (.int .u8 0)])), 24⟩),
  (9, ⟨.string, 1, (some (.string ByteArray.empty)), 16⟩),
  (10, ⟨.string, 1, (some (.string ByteArray.empty)), 16⟩),
  (11, ⟨.string, 1, (some (.string ByteArray.empty)), 16⟩),
  (12, ⟨.int .u64, 1, (some (.int .u64 0)), 8⟩),
  (13, ⟨.struct #[⟨ "msg", 9, 0, false, "", "runtime", 0⟩, ⟨ "addr", 12, 1, false, "", "runtime", 16⟩], 2, (some (.agg #[(.string ByteArray.empty), (.int .u64 0)])), 24⟩),
  (14, ⟨.struct #[⟨ "msg", 9, 0, false, "", "runtime", 0⟩, ⟨ "addr", 12, 1, false, "", "runtime", 16⟩], 2, (some (.agg #[(.string ByteArray.empty), (.int .u64 0)])), 24⟩),
  (15, ⟨.pointer 204, 1, (some (.pointer none)), 8⟩),
  (16, ⟨.pointer 207, 1, (some (.pointer none)), 8⟩),
  (17, ⟨.pointer 214, 1, (some (.pointer none)), 8⟩),
  (18, ⟨.struct #[⟨ "typ", 17, 0, false, "", "internal/runtime/maps", 0⟩], 1, (some (.agg #[(.pointer none)])), 8⟩),
  (19, ⟨.struct #[⟨ "typ", 17, 0, false, "", "internal/runtime/maps", 0⟩], 1, (some (.agg #[(.pointer none)])), 8⟩),
  (21, ⟨.int .i32, 1, (some (.int .i32 0)), 4⟩),
  (22, ⟨.slice 3, 1, (some (.slice none 0 0)), 24⟩),
  (23, ⟨.func #[] #[4] false, 1, (some .nilFunc), 8⟩),
  (24, ⟨.pointer 108, 1, (some (.pointer none)), 8⟩),
  (25, ⟨.int .i64, 1, (some (.int .i64 0)), 8⟩),
  (27, ⟨.func #[22] #[24, 25] false, 1, (some .nilFunc), 8⟩),
  (28, ⟨.func #[22] #[4] false, 1, (some .nilFunc), 8⟩),
  (29, ⟨.func #[] #[22] false, 1, (some .nilFunc), 8⟩),
  (31, ⟨.func #[3] #[3, 25] false, 1, (some .nilFunc), 8⟩),
  (32, ⟨.slice 113, 1, (some (.slice none 0 0)), 24⟩),
  (34, ⟨.func #[24, 22, 32, 4] #[3, 4] false, 1, (some .nilFunc), 8⟩),
  (35, ⟨.func #[3, 3, 3] #[3, 25] false, 1, (some .nilFunc), 8⟩),
  (36, ⟨.func #[3, 3] #[3, 25] false, 1, (some .nilFunc), 8⟩),
  (37, ⟨.func #[22, 32] #[4] false, 1, (some .nilFunc), 8⟩),
  (39, ⟨.func #[3] #[3, 3, 3, 25] false, 1, (some .nilFunc), 8⟩),
  (40, ⟨.func #[24, 22, 3, 3] #[4] false, 1, (some .nilFunc), 8⟩),
  (41, ⟨.func #[22, 3] #[22] false, 1, (some .nilFunc), 8⟩),
  (42, ⟨.int .u64, 1, (some (.int .u64 0)), 8⟩),
  (43, ⟨.array 2 42, 2, (some (.agg #[(.int .u64 0), (.int .u64 0)])), 16⟩),
  (44, ⟨.array 2 42, 2, (some (.agg #[(.int .u64 0), (.int .u64 0)])), 16⟩),
  (45, ⟨.struct #[⟨ "b", 9, 0, false, "", "census/nat", 0⟩], 1, (some (.agg #[(.string ByteArray.empty)])), 16⟩),
  (46, ⟨.struct #[⟨ "b", 9, 0, false, "", "census/nat", 0⟩], 1, (some (.agg #[(.string ByteArray.empty)])), 16⟩),
  (48, ⟨.func #[3] #[46, 25] false, 1, (some .nilFunc), 8⟩),
  (49, ⟨.func #[3] #[46] false, 1, (some .nilFunc), 8⟩),
  (50, ⟨.func #[46, 46] #[3] false, 1, (some .nilFunc), 8⟩),
  (51, ⟨.func #[] #[9] false, 1, (some .nilFunc), 8⟩),
  (52, ⟨.func #[3, 44] #[4] false, 1, (some .nilFunc), 8⟩),
  (53, ⟨.func #[5, 44] #[4] false, 1, (some .nilFunc), 8⟩),
  (54, ⟨.slice 63, 1, (some (.slice none 0 0)), 24⟩),
  (55, ⟨.struct #[⟨ "Order", 22, 0, false, "", "", 0⟩, ⟨ "L", 54, 1, false, "", "", 24⟩], 2, (some (.agg #[(.slice none 0 0), (.slice none 0 0)])), 48⟩),
  (56, ⟨.struct #[⟨ "Order", 22, 0, false, "", "", 0⟩, ⟨ "L", 54, 1, false, "", "", 24⟩], 2, (some (.agg #[(.slice none 0 0), (.slice none 0 0)])), 48⟩),
  (57, ⟨.slice 65, 1, (some (.slice none 0 0)), 24⟩),
  (58, ⟨.struct #[⟨ "s", 24, 0, false, "", "census/censuslaw30", 0⟩, ⟨ "at", 22, 1, false, "", "census/censuslaw30", 8⟩, ⟨ "f", 57, 2, false, "", "census/censuslaw30", 32⟩, ⟨ "bad", 4, 3, false, "", "census/censuslaw30", 56⟩], 4, (some (.agg #[(.pointer none), (.slice none 0 0), (.slice none 0 0), (.bool false)])), 64⟩),
  (59, ⟨.struct #[⟨ "s", 24, 0, false, "", "census/censuslaw30", 0⟩, ⟨ "at", 22, 1, false, "", "census/censuslaw30", 8⟩, ⟨ "f", 57, 2, false, "", "census/censuslaw30", 32⟩, ⟨ "bad", 4, 3, false, "", "census/censuslaw30", 56⟩], 4, (some (.agg #[(.pointer none), (.slice none 0 0), (.slice none 0 0), (.bool false)])), 64⟩),
  (60, ⟨.func #[22] #[59] false, 1, (some .nilFunc), 8⟩),
  (61, ⟨.func #[22, 63] #[59] false, 1, (some .nilFunc), 8⟩),
  (62, ⟨.struct #[⟨ "Kind", 5, 0, false, "", "", 0⟩, ⟨ "A", 3, 1, false, "", "", 8⟩, ⟨ "B", 3, 2, false, "", "", 16⟩, ⟨ "C", 3, 3, false, "", "", 24⟩], 4, (some (.agg #[(.int .u8 0), (.int .i64 0), (.int .i64 0), (.int .i64 0)])), 32⟩),
  (63, ⟨.struct #[⟨ "Kind", 5, 0, false, "", "", 0⟩, ⟨ "A", 3, 1, false, "", "", 8⟩, ⟨ "B", 3, 2, false, "", "", 16⟩, ⟨ "C", 3, 3, false, "", "", 24⟩], 4, (some (.agg #[(.int .u8 0), (.int .i64 0), (.int .i64 0), (.int .i64 0)])), 32⟩),
  (64, ⟨.func #[22, 44] #[3] false, 1, (some .nilFunc), 8⟩),
  (65, ⟨.slice 4, 1, (some (.slice none 0 0)), 24⟩),
  (66, ⟨.func #[56, 44] #[4] false, 1, (some .nilFunc), 8⟩),
  (67, ⟨.func #[3, 3] #[3] false, 1, (some .nilFunc), 8⟩),
  (68, ⟨.func #[3] #[3] false, 1, (some .nilFunc), 8⟩),
  (69, ⟨.func #[46, 46] #[46] false, 1, (some .nilFunc), 8⟩),
  (70, ⟨.func #[22, 32, 32, 32, 5] #[4] false, 1, (some .nilFunc), 8⟩),
  (71, ⟨.slice 22, 1, (some (.slice none 0 0)), 24⟩),
  (72, ⟨.struct #[⟨ "N", 3, 0, false, "", "", 0⟩, ⟨ "L", 71, 1, false, "", "", 8⟩], 2, (some (.agg #[(.int .i64 0), (.slice none 0 0)])), 32⟩),
  (73, ⟨.struct #[⟨ "N", 3, 0, false, "", "", 0⟩, ⟨ "L", 71, 1, false, "", "", 8⟩], 2, (some (.agg #[(.int .i64 0), (.slice none 0 0)])), 32⟩),
  (74, ⟨.func #[73, 22] #[25] false, 1, (some .nilFunc), 8⟩),
  (76, ⟨.func #[73, 22] #[24, 3, 25] false, 1, (some .nilFunc), 8⟩),
  (77, ⟨.slice 44, 1, (some (.slice none 0 0)), 24⟩),
  (78, ⟨.func #[73] #[77] false, 1, (some .nilFunc), 8⟩),
  (79, ⟨.func #[65] #[9] false, 1, (some .nilFunc), 8⟩),
  (80, ⟨.func #[22, 77] #[65] false, 1, (some .nilFunc), 8⟩),
  (81, ⟨.func #[77, 22] #[3] false, 1, (some .nilFunc), 8⟩),
  (82, ⟨.func #[3] #[77] false, 1, (some .nilFunc), 8⟩),
  (83, ⟨.func #[73, 44] #[4] false, 1, (some .nilFunc), 8⟩),
  (84, ⟨.func #[73, 22] #[4] false, 1, (some .nilFunc), 8⟩),
  (85, ⟨.func #[24, 3, 3, 25] #[4] false, 1, (some .nilFunc), 8⟩),
  (86, ⟨.func #[22, 3] #[3] false, 1, (some .nilFunc), 8⟩),
  (87, ⟨.func #[22, 3, 3, 44] #[4] false, 1, (some .nilFunc), 8⟩),
  (88, ⟨.slice 148, 1, (some (.slice none 0 0)), 24⟩),
  (89, ⟨.struct #[⟨ "N", 3, 0, false, "", "", 0⟩, ⟨ "L", 88, 1, false, "", "", 8⟩], 2, (some (.agg #[(.int .i64 0), (.slice none 0 0)])), 32⟩),
  (90, ⟨.struct #[⟨ "N", 3, 0, false, "", "", 0⟩, ⟨ "L", 88, 1, false, "", "", 8⟩], 2, (some (.agg #[(.int .i64 0), (.slice none 0 0)])), 32⟩),
  (92, ⟨.func #[3] #[90, 25] false, 1, (some .nilFunc), 8⟩),
  (93, ⟨.func #[90] #[25] false, 1, (some .nilFunc), 8⟩),
  (94, ⟨.func #[90] #[4] false, 1, (some .nilFunc), 8⟩),
  (95, ⟨.func #[90, 44] #[4] false, 1, (some .nilFunc), 8⟩),
  (96, ⟨.func #[22, 32, 44] #[4] false, 1, (some .nilFunc), 8⟩),
  (97, ⟨.func #[22, 3] #[4] false, 1, (some .nilFunc), 8⟩),
  (98, ⟨.func #[44] #[3] false, 1, (some .nilFunc), 8⟩),
  (99, ⟨.func #[22] #[44] true, 1, (some .nilFunc), 8⟩),
  (100, ⟨.struct #[⟨ "place", 3, 0, false, "", "census/obdd", 0⟩, ⟨ "low", 3, 1, false, "", "census/obdd", 8⟩, ⟨ "high", 3, 2, false, "", "census/obdd", 16⟩], 3, (some (.agg #[(.int .i64 0), (.int .i64 0), (.int .i64 0)])), 24⟩),
  (101, ⟨.struct #[⟨ "place", 3, 0, false, "", "census/obdd", 0⟩, ⟨ "low", 3, 1, false, "", "census/obdd", 8⟩, ⟨ "high", 3, 2, false, "", "census/obdd", 16⟩], 3, (some (.agg #[(.int .i64 0), (.int .i64 0), (.int .i64 0)])), 24⟩),
  (102, ⟨.func #[22] #[22] false, 1, (some .nilFunc), 8⟩),
  (103, ⟨.map 3 3, 1, (some (.map none)), 8⟩),
  (104, ⟨.slice 101, 1, (some (.slice none 0 0)), 24⟩),
  (105, ⟨.map 101 3, 1, (some (.map none)), 8⟩),
  (106, ⟨.map 166 3, 1, (some (.map none)), 8⟩),
  (107, ⟨.struct #[⟨ "order", 22, 0, false, "", "census/obdd", 0⟩, ⟨ "places", 103, 1, false, "", "census/obdd", 24⟩, ⟨ "nodes", 104, 2, false, "", "census/obdd", 32⟩, ⟨ "unique", 105, 3, false, "", "census/obdd", 56⟩, ⟨ "ifs", 106, 4, false, "", "census/obdd", 64⟩], 5, (some (.agg #[(.slice none 0 0), (.map none), (.slice none 0 0), (.map none), (.map none)])), 72⟩),
  (108, ⟨.struct #[⟨ "order", 22, 0, false, "", "census/obdd", 0⟩, ⟨ "places", 103, 1, false, "", "census/obdd", 24⟩, ⟨ "nodes", 104, 2, false, "", "census/obdd", 32⟩, ⟨ "unique", 105, 3, false, "", "census/obdd", 56⟩, ⟨ "ifs", 106, 4, false, "", "census/obdd", 64⟩], 5, (some (.agg #[(.slice none 0 0), (.map none), (.slice none 0 0), (.map none), (.map none)])), 72⟩),
  (109, ⟨.func #[22] #[44] false, 1, (some .nilFunc), 8⟩),
  (110, ⟨.func #[112, 22] #[3, 25] true, 1, (some .nilFunc), 8⟩),
  (111, ⟨.func #[3, 3, 3] #[3] false, 1, (some .nilFunc), 8⟩),
  (112, ⟨.func #[] #[3] false, 1, (some .nilFunc), 8⟩),
  (113, ⟨.int .u16, 1, (some (.int .u16 0)), 2⟩),
  (114, ⟨.func #[22] #[25] true, 1, (some .nilFunc), 8⟩),
  (115, ⟨.func #[101] #[3] false, 1, (some .nilFunc), 8⟩),
  (116, ⟨.func #[3] #[22] false, 1, (some .nilFunc), 8⟩),
  (117, ⟨.func #[3, 118] #[46] false, 1, (some .nilFunc), 8⟩),
  (118, ⟨.map 3 46, 1, (some (.map none)), 8⟩),
  (119, ⟨.slice 120, 1, (some (.slice none 0 0)), 24⟩),
  (120, ⟨.int .u32, 1, (some (.int .u32 0)), 4⟩),
  (121, ⟨.int .u64, 1, (some (.int .u64 0)), 8⟩),
  (122, ⟨.func #[119] #[46] false, 1, (some .nilFunc), 8⟩),
  (123, ⟨.func #[] #[119] false, 1, (some .nilFunc), 8⟩),
  (124, ⟨.slice 5, 1, (some (.slice none 0 0)), 24⟩),
  (125, ⟨.func #[119, 120] #[120] false, 1, (some .nilFunc), 8⟩),
  (126, ⟨.pointer 128, 1, (some (.pointer none)), 8⟩),
  (127, ⟨.struct #[⟨ "addr", 126, 0, false, "", "strings", 0⟩, ⟨ "buf", 124, 1, false, "", "strings", 8⟩], 2, (some (.agg #[(.pointer none), (.slice none 0 0)])), 32⟩),
  (128, ⟨.struct #[⟨ "addr", 126, 0, false, "", "strings", 0⟩, ⟨ "buf", 124, 1, false, "", "strings", 8⟩], 2, (some (.agg #[(.pointer none), (.slice none 0 0)])), 32⟩),
  (131, ⟨.func #[5] #[130] false, 1, (some .nilFunc), 8⟩),
  (132, ⟨.func #[3, 3, 4] #[3] false, 1, (some .nilFunc), 8⟩),
  (133, ⟨.func #[44, 3] #[4] false, 1, (some .nilFunc), 8⟩),
  (134, ⟨.func #[3, 4] #[65] false, 1, (some .nilFunc), 8⟩),
  (136, ⟨.func #[22, 3] #[65, 4] false, 1, (some .nilFunc), 8⟩),
  (137, ⟨.func #[65] #[65] false, 1, (some .nilFunc), 8⟩),
  (138, ⟨.func #[65, 65] #[65] false, 1, (some .nilFunc), 8⟩),
  (139, ⟨.func #[65, 65, 65] #[65] false, 1, (some .nilFunc), 8⟩),
  (140, ⟨.func #[22, 65, 3] #[65] false, 1, (some .nilFunc), 8⟩),
  (141, ⟨.func #[73] #[25] false, 1, (some .nilFunc), 8⟩),
  (142, ⟨.func #[3] #[44] false, 1, (some .nilFunc), 8⟩),
  (143, ⟨.func #[3, 3] #[44] false, 1, (some .nilFunc), 8⟩),
  (144, ⟨.func #[42] #[9] false, 1, (some .nilFunc), 8⟩),
  (145, ⟨.func #[22, 65] #[3] false, 1, (some .nilFunc), 8⟩),
  (146, ⟨.func #[44, 3] #[44] false, 1, (some .nilFunc), 8⟩),
  (147, ⟨.struct #[⟨ "Kind", 3, 0, false, "", "", 0⟩, ⟨ "Lit", 3, 1, false, "", "", 8⟩, ⟨ "In", 22, 2, false, "", "", 16⟩], 3, (some (.agg #[(.int .i64 0), (.int .i64 0), (.slice none 0 0)])), 40⟩),
  (148, ⟨.struct #[⟨ "Kind", 3, 0, false, "", "", 0⟩, ⟨ "Lit", 3, 1, false, "", "", 8⟩, ⟨ "In", 22, 2, false, "", "", 16⟩], 3, (some (.agg #[(.int .i64 0), (.int .i64 0), (.slice none 0 0)])), 40⟩),
  (149, ⟨.func #[148] #[3] false, 1, (some .nilFunc), 8⟩),
  (150, ⟨.func #[148, 3, 3] #[4] false, 1, (some .nilFunc), 8⟩),
  (151, ⟨.func #[90] #[77] false, 1, (some .nilFunc), 8⟩),
  (152, ⟨.func #[44, 44] #[44] false, 1, (some .nilFunc), 8⟩),
  (153, ⟨.func #[22, 22] #[4] false, 1, (some .nilFunc), 8⟩),
  (154, ⟨.func #[90, 3] #[22] false, 1, (some .nilFunc), 8⟩),
  (155, ⟨.func #[22, 156] #[4] false, 1, (some .nilFunc), 8⟩),
  (156, ⟨.func #[3] #[4] false, 1, (some .nilFunc), 8⟩),
  (157, ⟨.array 5 3, 5, (some (.agg #[(.int .i64 0), (.int .i64 0), (.int .i64 0), (.int .i64 0), (.int .i64 0)])), 40⟩),
  (158, ⟨.func #[42] #[3] false, 1, (some .nilFunc), 8⟩),
  (159, ⟨.func #[44] #[22] false, 1, (some .nilFunc), 8⟩),
  (160, ⟨.func #[] #[65] false, 1, (some .nilFunc), 8⟩),
  (161, ⟨.func #[65] #[44] false, 1, (some .nilFunc), 8⟩),
  (162, ⟨.struct #[], 0, (some (.agg #[])), 0⟩),
  (163, ⟨.struct #[], 0, (some (.agg #[])), 0⟩),
  (165, ⟨.func #[166] #[3] false, 1, (some .nilFunc), 8⟩),
  (166, ⟨.array 3 3, 3, (some (.agg #[(.int .i64 0), (.int .i64 0), (.int .i64 0)])), 24⟩),
  (167, ⟨.map 3 4, 1, (some (.map none)), 8⟩),
  (168, ⟨.func #[3] #[] false, 1, (some .nilFunc), 8⟩),
  (169, ⟨.func #[22] #[] false, 1, (some .nilFunc), 8⟩),
  (170, ⟨.func #[42] #[46] false, 1, (some .nilFunc), 8⟩),
  (172, ⟨.pointer 5, 1, (some (.pointer none)), 8⟩),
  (174, ⟨.func #[3] #[3, 42, 4] false, 1, (some .nilFunc), 8⟩),
  (175, ⟨.func #[22, 65, 3, 4] #[65] false, 1, (some .nilFunc), 8⟩),
  (176, ⟨.func #[3, 3] #[4] false, 1, (some .nilFunc), 8⟩),
  (177, ⟨.func #[22] #[9] false, 1, (some .nilFunc), 8⟩),
  (178, ⟨.func #[22, 65] #[22] false, 1, (some .nilFunc), 8⟩),
  (179, ⟨.array 257 4, 257, (some (.agg #[(.bool false), (.bool false), (.bool false), (.bool false), (.bool false), (.bool false), (.bool false), (.bool false), (.bool false), (.bool false), (.bool false), (.bool false), (.bool false), (.bool false), (.bool false), (.bool false), (.bool false), (.bool false), (.bool false), (.bool false), (.bool false), (.bool false), (.bool false), (.bool false), (.bool false), (.bool false), (.bool false), (.bool false), (.bool false), (.bool false), (.bool false), (.bool false), (.bool false), (.bool false), (.bool false), (.bool false), (.bool false), (.bool false), (.bool false), (.bool false), (.bool false), (.bool false), (.bool false), (.bool false), (.bool false), (.bool false), (.bool false), (.bool false), (.bool false), (.bool false), (.bool false), (.bool false), (.bool false), (.bool false), (.bool false), (.bool false), (.bool false), (.bool false), (.bool false), (.bool false), (.bool false), (.bool false), (.bool false), (.bool false), (.bool false), (.bool false), (.bool false), (.bool false), (.bool false), (.bool false), (.bool false), (.bool false), (.bool false), (.bool false), (.bool false), (.bool false), (.bool false), (.bool false), (.bool false), (.bool false), (.bool false), (.bool false), (.bool false), (.bool false), (.bool false), (.bool false), (.bool false), (.bool false), (.bool false), (.bool false), (.bool false), (.bool false), (.bool false), (.bool false), (.bool false), (.bool false), (.bool false), (.bool false), (.bool false), (.bool false), (.bool false), (.bool false), (.bool false), (.bool false), (.bool false), (.bool false), (.bool false), (.bool false), (.bool false), (.bool false), (.bool false), (.bool false), (.bool false), (.bool false), (.bool false), (.bool false), (.bool false), (.bool false), (.bool false), (.bool false), (.bool false), (.bool false), (.bool false), (.bool false), (.bool false), (.bool false), (.bool false), (.bool false), (.bool false), (.bool false), (.bool false), (.bool false), (.bool false), (.bool false), (.bool false), (.bool false), (.bool false), (.bool false), (.bool false), (.bool false), (.bool false), (.bool false), (.bool false), (.bool false), (.bool false), (.bool false), (.bool false), (.bool false), (.bool false), (.bool false), (.bool false), (.bool false), (.bool false), (.bool false), (.bool false), (.bool false), (.bool false), (.bool false), (.bool false), (.bool false), (.bool false), (.bool false), (.bool false), (.bool false), (.bool false), (.bool false), (.bool false), (.bool false), (.bool false), (.bool false), (.bool false), (.bool false), (.bool false), (.bool false), (.bool false), (.bool false), (.bool false), (.bool false), (.bool false), (.bool false), (.bool false), (.bool false), (.bool false), (.bool false), (.bool false), (.bool false), (.bool false), (.bool false), (.bool false), (.bool false), (.bool false), (.bool false), (.bool false), (.bool false), (.bool false), (.bool false), (.bool false), (.bool false), (.bool false), (.bool false), (.bool false), (.bool false), (.bool false), (.bool false), (.bool false), (.bool false), (.bool false), (.bool false), (.bool false), (.bool false), (.bool false), (.bool false), (.bool false), (.bool false), (.bool false), (.bool false), (.bool false), (.bool false), (.bool false), (.bool false), (.bool false), (.bool false), (.bool false), (.bool false), (.bool false), (.bool false), (.bool false), (.bool false), (.bool false), (.bool false), (.bool false), (.bool false), (.bool false), (.bool false), (.bool false), (.bool false), (.bool false), (.bool false), (.bool false), (.bool false), (.bool false), (.bool false), (.bool false), (.bool false), (.bool false), (.bool false), (.bool false), (.bool false), (.bool false), (.bool false), (.bool false), (.bool false), (.bool false), (.bool false), (.bool false), (.bool false), (.bool false)])), 257⟩),
  (180, ⟨.func #[22, 156] #[3] false, 1, (some .nilFunc), 8⟩),
  (181, ⟨.func #[22, 3, 3, 3] #[] false, 1, (some .nilFunc), 8⟩),
  (182, ⟨.func #[121] #[3] false, 1, (some .nilFunc), 8⟩),
  (184, ⟨.func #[183] #[183] false, 1, (some .nilFunc), 8⟩),
  (185, ⟨.func #[65, 65] #[4] false, 1, (some .nilFunc), 8⟩),
  (186, ⟨.func #[22, 3, 3] #[] false, 1, (some .nilFunc), 8⟩),
  (187, ⟨.int .i64, 1, (some (.int .i64 0)), 8⟩),
  (189, ⟨.func #[22, 3, 3] #[3, 187] false, 1, (some .nilFunc), 8⟩),
  (190, ⟨.func #[22, 3, 3] #[4] false, 1, (some .nilFunc), 8⟩),
  (191, ⟨.func #[22, 3, 3, 3] #[3] false, 1, (some .nilFunc), 8⟩),
  (192, ⟨.func #[22, 3, 3, 3] #[3, 4] false, 1, (some .nilFunc), 8⟩),
  (193, ⟨.func #[120] #[3] false, 1, (some .nilFunc), 8⟩),
  (194, ⟨.int .u64, 1, (some (.int .u64 0)), 8⟩),
  (195, ⟨.func #[3] #[121] false, 1, (some .nilFunc), 8⟩),
  (196, ⟨.func #[] #[42] false, 1, (some .nilFunc), 8⟩),
  (197, ⟨.func #[22, 3, 198] #[3] false, 1, (some .nilFunc), 8⟩),
  (198, ⟨.pointer 3, 1, (some (.pointer none)), 8⟩),
  (199, ⟨.func #[22, 3, 3, 3, 198] #[3] false, 1, (some .nilFunc), 8⟩),
  (200, ⟨.pointer 194, 1, (some (.pointer none)), 8⟩),
  (202, ⟨.func #[22, 3, 3, 198] #[3, 3] false, 1, (some .nilFunc), 8⟩),
  (203, ⟨.struct #[⟨ "_interface", 17, 0, false, "", "runtime", 0⟩, ⟨ "concrete", 17, 1, false, "", "runtime", 8⟩, ⟨ "asserted", 17, 2, false, "", "runtime", 16⟩, ⟨ "missingMethod", 9, 3, false, "", "runtime", 24⟩], 4, (some (.agg #[(.pointer none), (.pointer none), (.pointer none), (.string ByteArray.empty)])), 40⟩),
  (204, ⟨.struct #[⟨ "_interface", 17, 0, false, "", "runtime", 0⟩, ⟨ "concrete", 17, 1, false, "", "runtime", 8⟩, ⟨ "asserted", 17, 2, false, "", "runtime", 16⟩, ⟨ "missingMethod", 9, 3, false, "", "runtime", 24⟩], 4, (some (.agg #[(.pointer none), (.pointer none), (.pointer none), (.string ByteArray.empty)])), 40⟩),
  (205, ⟨.array 0 16, 0, (some (.agg #[])), 0⟩),
  (206, ⟨.struct #[⟨ "_", 205, 0, false, "", "runtime", 0⟩], 0, (some (.agg #[])), 0⟩),
  (207, ⟨.struct #[⟨ "_", 205, 0, false, "", "runtime", 0⟩], 0, (some (.agg #[])), 0⟩),
  (208, ⟨.int .u8, 1, (some (.int .u8 0)), 1⟩),
  (209, ⟨.int .u8, 1, (some (.int .u8 0)), 1⟩),
  (210, ⟨.func #[183, 183] #[4] false, 1, (some .nilFunc), 8⟩),
  (211, ⟨.int .i32, 1, (some (.int .i32 0)), 4⟩),
  (212, ⟨.int .i32, 1, (some (.int .i32 0)), 4⟩),
  (213, ⟨.struct #[⟨ "Size_", 12, 0, false, "", "", 0⟩, ⟨ "PtrBytes", 12, 1, false, "", "", 8⟩, ⟨ "Hash", 120, 2, false, "", "", 16⟩, ⟨ "TFlag", 208, 3, false, "", "", 20⟩, ⟨ "Align_", 5, 4, false, "", "", 21⟩, ⟨ "FieldAlign_", 5, 5, false, "", "", 22⟩, ⟨ "Kind_", 209, 6, false, "", "", 23⟩, ⟨ "Equal", 210, 7, false, "", "", 24⟩, ⟨ "GCData", 172, 8, false, "", "", 32⟩, ⟨ "Str", 211, 9, false, "", "", 40⟩, ⟨ "PtrToThis", 212, 10, false, "", "", 44⟩], 11, (some (.agg #[(.int .u64 0), (.int .u64 0), (.int .u32 0), (.int .u8 0), (.int .u8 0), (.int .u8 0), (.int .u8 0), .nilFunc, (.pointer none), (.int .i32 0), (.int .i32 0)])), 48⟩),
  (214, ⟨.struct #[⟨ "Size_", 12, 0, false, "", "", 0⟩, ⟨ "PtrBytes", 12, 1, false, "", "", 8⟩, ⟨ "Hash", 120, 2, false, "", "", 16⟩, ⟨ "TFlag", 208, 3, false, "", "", 20⟩, ⟨ "Align_", 5, 4, false, "", "", 21⟩, ⟨ "FieldAlign_", 5, 5, false, "", "", 22⟩, ⟨ "Kind_", 209, 6, false, "", "", 23⟩, ⟨ "Equal", 210, 7, false, "", "", 24⟩, ⟨ "GCData", 172, 8, false, "", "", 32⟩, ⟨ "Str", 211, 9, false, "", "", 40⟩, ⟨ "PtrToThis", 212, 10, false, "", "", 44⟩], 11, (some (.agg #[(.int .u64 0), (.int .u64 0), (.int .u32 0), (.int .u8 0), (.int .u8 0), (.int .u8 0), (.int .u8 0), .nilFunc, (.pointer none), (.int .i32 0), (.int .i32 0)])), 48⟩)
]
theorem hΓ : Fits Try.prog Γ :=
  .cons (
  .cons (
  .cons (
  .cons (
  .cons (
  .cons (
  .cons (
  .cons (
  .cons (
  .cons (
  .cons (
  .cons (
  .cons (
  .cons (
  .cons (
  .cons (
  .cons (
  .cons (
  .cons (
  .cons (
  .cons (
  .cons (
  .cons (
  .cons (
  .cons (
  .cons (
  .cons (
  .cons (
  .cons (
  .cons (
  .cons (
  .cons (
  .cons (
  .cons (
  .cons (
  .cons (
  .cons (
  .cons (
  .cons (
  .cons (
  .cons (
  .cons (
  .cons (
  .cons (
  .cons (
  .cons (
  .cons (
  .cons (
  .cons (
  .cons (
  .cons (
  .cons (
  .cons (
  .cons (
  .cons (
  .cons (
  .cons (
  .cons (
  .cons (
  .cons (
  .cons (
  .cons (
  .cons (
  .cons (
  .cons (
  .cons (
  .cons (
  .cons (
  .cons (
  .cons (
  .cons (
  .cons (
  .cons (
  .cons (
  .cons (
  .cons (
  .cons (
  .cons (
  .cons (
  .cons (
  .cons (
  .cons (
  .cons (
  .cons (
  .cons (
  .cons (
  .cons (
  .cons (
  .cons (
  .cons (
  .cons (
  .cons (
  .cons (
  .cons (
  .cons (
  .cons (
  .cons (
  .cons (
  .cons (
  .cons (
  .cons (
  .cons (
  .cons (
  .cons (
  .cons (
  .cons (
  .cons (
  .cons (
  .cons (
  .cons (
  .cons (
  .cons (
  .cons (
  .cons (
  .cons (
  .cons (
  .cons (
  .cons (
  .cons (
  .cons (
  .cons (
  .cons (
  .cons (
  .cons (
  .cons (
  .cons (
  .cons (
  .cons (
  .cons (
  .cons (
  .cons (
  .cons (
  .cons (
  .cons (
  .cons (
  .cons (
  .cons (
  .cons (
  .cons (
  .cons (
  .cons (
  .cons (
  .cons (
  .cons (
  .cons (
  .cons (
  .cons (
  .cons (
  .cons (
  .cons (
  .cons (
  .cons (
  .cons (
  .cons (
  .cons (
  .cons (
  .cons (
  .cons (
  .cons (
  .cons (
  .cons (
  .cons (
  .cons (
  .cons (
  .cons (
  .cons (
  .cons (
  .cons (
  .cons (
  .cons (
  .cons (
  .cons (
  .cons (
  .cons (
  .cons (
  .cons (
  .cons (
  .cons (
  .cons (
  .cons (
  .cons (
  .cons (
  .cons (
  .cons (
  .cons (
  .cons (
  .cons (
  .cons (
  .cons (
  .cons (
  .cons (
  .cons (
  .cons (
  .cons (
  .cons (
  .cons (
  .cons (
  Fits.nil _
  ) (by kernel_rfl) (by kernel_rfl)
  ) (by kernel_rfl) (by kernel_rfl)
  ) (by kernel_rfl) (by kernel_rfl)
  ) (by kernel_rfl) (by kernel_rfl)
  ) (by kernel_rfl) (by kernel_rfl)
  ) (by kernel_rfl) (by kernel_rfl)
  ) (by kernel_rfl) (by kernel_rfl)
  ) (by kernel_rfl) (by kernel_rfl)
  ) (by kernel_rfl) (by kernel_rfl)
  ) (by kernel_rfl) (by kernel_rfl)
  ) (by kernel_rfl) (by kernel_rfl)
  ) (by kernel_rfl) (by kernel_rfl)
  ) (by kernel_rfl) (by kernel_rfl)
  ) (by kernel_rfl) (by kernel_rfl)
  ) (by kernel_rfl) (by kernel_rfl)
  ) (by kernel_rfl) (by kernel_rfl)
  ) (by kernel_rfl) (by kernel_rfl)
  ) (by kernel_rfl) (by kernel_rfl)
  ) (by kernel_rfl) (by kernel_rfl)
  ) (by kernel_rfl) (by kernel_rfl)
  ) (by kernel_rfl) (by kernel_rfl)
  ) (by kernel_rfl) (by kernel_rfl)
  ) (by kernel_rfl) (by kernel_rfl)
  ) (by kernel_rfl) (by kernel_rfl)
  ) (by kernel_rfl) (by kernel_rfl)
  ) (by kernel_rfl) (by kernel_rfl)
  ) (by kernel_rfl) (by kernel_rfl)
  ) (by kernel_rfl) (by kernel_rfl)
  ) (by kernel_rfl) (by kernel_rfl)
  ) (by kernel_rfl) (by kernel_rfl)
  ) (by kernel_rfl) (by kernel_rfl)
  ) (by kernel_rfl) (by kernel_rfl)
  ) (by kernel_rfl) (by kernel_rfl)
  ) (by kernel_rfl) (by kernel_rfl)
  ) (by kernel_rfl) (by kernel_rfl)
  ) (by kernel_rfl) (by kernel_rfl)
  ) (by kernel_rfl) (by kernel_rfl)
  ) (by kernel_rfl) (by kernel_rfl)
  ) (by kernel_rfl) (by kernel_rfl)
  ) (by kernel_rfl) (by kernel_rfl)
  ) (by kernel_rfl) (by kernel_rfl)
  ) (by kernel_rfl) (by kernel_rfl)
  ) (by kernel_rfl) (by kernel_rfl)
  ) (by kernel_rfl) (by kernel_rfl)
  ) (by kernel_rfl) (by kernel_rfl)
  ) (by kernel_rfl) (by kernel_rfl)
  ) (by kernel_rfl) (by kernel_rfl)
  ) (by kernel_rfl) (by kernel_rfl)
  ) (by kernel_rfl) (by kernel_rfl)
  ) (by kernel_rfl) (by kernel_rfl)
  ) (by kernel_rfl) (by kernel_rfl)
  ) (by kernel_rfl) (by kernel_rfl)
  ) (by kernel_rfl) (by kernel_rfl)
  ) (by kernel_rfl) (by kernel_rfl)
  ) (by kernel_rfl) (by kernel_rfl)
  ) (by kernel_rfl) (by kernel_rfl)
  ) (by kernel_rfl) (by kernel_rfl)
  ) (by kernel_rfl) (by kernel_rfl)
  ) (by kernel_rfl) (by kernel_rfl)
  ) (by kernel_rfl) (by kernel_rfl)
  ) (by kernel_rfl) (by kernel_rfl)
  ) (by kernel_rfl) (by kernel_rfl)
  ) (by kernel_rfl) (by kernel_rfl)
  ) (by kernel_rfl) (by kernel_rfl)
  ) (by kernel_rfl) (by kernel_rfl)
  ) (by kernel_rfl) (by kernel_rfl)
  ) (by kernel_rfl) (by kernel_rfl)
  ) (by kernel_rfl) (by kernel_rfl)
  ) (by kernel_rfl) (by kernel_rfl)
  ) (by kernel_rfl) (by kernel_rfl)
  ) (by kernel_rfl) (by kernel_rfl)
  ) (by kernel_rfl) (by kernel_rfl)
  ) (by kernel_rfl) (by kernel_rfl)
  ) (by kernel_rfl) (by kernel_rfl)
  ) (by kernel_rfl) (by kernel_rfl)
  ) (by kernel_rfl) (by kernel_rfl)
  ) (by kernel_rfl) (by kernel_rfl)
  ) (by kernel_rfl) (by kernel_rfl)
  ) (by kernel_rfl) (by kernel_rfl)
  ) (by kernel_rfl) (by kernel_rfl)
  ) (by kernel_rfl) (by kernel_rfl)
  ) (by kernel_rfl) (by kernel_rfl)
  ) (by kernel_rfl) (by kernel_rfl)
  ) (by kernel_rfl) (by kernel_rfl)
  ) (by kernel_rfl) (by kernel_rfl)
  ) (by kernel_rfl) (by kernel_rfl)
  ) (by kernel_rfl) (by kernel_rfl)
  ) (by kernel_rfl) (by kernel_rfl)
  ) (by kernel_rfl) (by kernel_rfl)
  ) (by kernel_rfl) (by kernel_rfl)
  ) (by kernel_rfl) (by kernel_rfl)
  ) (by kernel_rfl) (by kernel_rfl)
  ) (by kernel_rfl) (by kernel_rfl)
  ) (by kernel_rfl) (by kernel_rfl)
  ) (by kernel_rfl) (by kernel_rfl)
  ) (by kernel_rfl) (by kernel_rfl)
  ) (by kernel_rfl) (by kernel_rfl)
  ) (by kernel_rfl) (by kernel_rfl)
  ) (by kernel_rfl) (by kernel_rfl)
  ) (by kernel_rfl) (by kernel_rfl)
  ) (by kernel_rfl) (by kernel_rfl)
  ) (by kernel_rfl) (by kernel_rfl)
  ) (by kernel_rfl) (by kernel_rfl)
  ) (by kernel_rfl) (by kernel_rfl)
  ) (by kernel_rfl) (by kernel_rfl)
  ) (by kernel_rfl) (by kernel_rfl)
  ) (by kernel_rfl) (by kernel_rfl)
  ) (by kernel_rfl) (by kernel_rfl)
  ) (by kernel_rfl) (by kernel_rfl)
  ) (by kernel_rfl) (by kernel_rfl)
  ) (by kernel_rfl) (by kernel_rfl)
  ) (by kernel_rfl) (by kernel_rfl)
  ) (by kernel_rfl) (by kernel_rfl)
  ) (by kernel_rfl) (by kernel_rfl)
  ) (by kernel_rfl) (by kernel_rfl)
  ) (by kernel_rfl) (by kernel_rfl)
  ) (by kernel_rfl) (by kernel_rfl)
  ) (by kernel_rfl) (by kernel_rfl)
  ) (by kernel_rfl) (by kernel_rfl)
  ) (by kernel_rfl) (by kernel_rfl)
  ) (by kernel_rfl) (by kernel_rfl)
  ) (by kernel_rfl) (by kernel_rfl)
  ) (by kernel_rfl) (by kernel_rfl)
  ) (by kernel_rfl) (by kernel_rfl)
  ) (by kernel_rfl) (by kernel_rfl)
  ) (by kernel_rfl) (by kernel_rfl)
  ) (by kernel_rfl) (by kernel_rfl)
  ) (by kernel_rfl) (by kernel_rfl)
  ) (by kernel_rfl) (by kernel_rfl)
  ) (by kernel_rfl) (by kernel_rfl)
  ) (by kernel_rfl) (by kernel_rfl)
  ) (by kernel_rfl) (by kernel_rfl)
  ) (by kernel_rfl) (by kernel_rfl)
  ) (by kernel_rfl) (by kernel_rfl)
  ) (by kernel_rfl) (by kernel_rfl)
  ) (by kernel_rfl) (by kernel_rfl)
  ) (by kernel_rfl) (by kernel_rfl)
  ) (by kernel_rfl) (by kernel_rfl)
  ) (by kernel_rfl) (by kernel_rfl)
  ) (by kernel_rfl) (by kernel_rfl)
  ) (by kernel_rfl) (by kernel_rfl)
  ) (by kernel_rfl) (by kernel_rfl)
  ) (by kernel_rfl) (by kernel_rfl)
  ) (by kernel_rfl) (by kernel_rfl)
  ) (by kernel_rfl) (by kernel_rfl)
  ) (by kernel_rfl) (by kernel_rfl)
  ) (by kernel_rfl) (by kernel_rfl)
  ) (by kernel_rfl) (by kernel_rfl)
  ) (by kernel_rfl) (by kernel_rfl)
  ) (by kernel_rfl) (by kernel_rfl)
  ) (by kernel_rfl) (by kernel_rfl)
  ) (by kernel_rfl) (by kernel_rfl)
  ) (by kernel_rfl) (by kernel_rfl)
  ) (by kernel_rfl) (by kernel_rfl)
  ) (by kernel_rfl) (by kernel_rfl)
  ) (by kernel_rfl) (by kernel_rfl)
  ) (by kernel_rfl) (by kernel_rfl)
  ) (by kernel_rfl) (by kernel_rfl)
  ) (by kernel_rfl) (by kernel_rfl)
  ) (by kernel_rfl) (by kernel_rfl)
  ) (by kernel_rfl) (by kernel_rfl)
  ) (by kernel_rfl) (by kernel_rfl)
  ) (by kernel_rfl) (by kernel_rfl)
  ) (by kernel_rfl) (by kernel_rfl)
  ) (by kernel_rfl) (by kernel_rfl)
  ) (by kernel_rfl) (by kernel_rfl)
  ) (by kernel_rfl) (by kernel_rfl)
  ) (by kernel_rfl) (by kernel_rfl)
  ) (by kernel_rfl) (by kernel_rfl)
  ) (by kernel_rfl) (by kernel_rfl)
  ) (by kernel_rfl) (by kernel_rfl)
  ) (by kernel_rfl) (by kernel_rfl)
  ) (by kernel_rfl) (by kernel_rfl)
  ) (by kernel_rfl) (by kernel_rfl)
  ) (by kernel_rfl) (by kernel_rfl)
  ) (by kernel_rfl) (by kernel_rfl)
  ) (by kernel_rfl) (by kernel_rfl)
  ) (by kernel_rfl) (by kernel_rfl)
  ) (by kernel_rfl) (by kernel_rfl)
  ) (by kernel_rfl) (by kernel_rfl)
  ) (by kernel_rfl) (by kernel_rfl)
  ) (by kernel_rfl) (by kernel_rfl)
  ) (by kernel_rfl) (by kernel_rfl)
  ) (by kernel_rfl) (by kernel_rfl)
  ) (by kernel_rfl) (by kernel_rfl)
  ) (by kernel_rfl) (by kernel_rfl)
  ) (by kernel_rfl) (by kernel_rfl)
  ) (by kernel_rfl) (by kernel_rfl)
  ) (by kernel_rfl) (by kernel_rfl)
  ) (by kernel_rfl) (by kernel_rfl)
  ) (by kernel_rfl) (by kernel_rfl)
  ) (by kernel_rfl) (by kernel_rfl)
  ) (by kernel_rfl) (by kernel_rfl)
  ) (by kernel_rfl) (by kernel_rfl)
  ) (by kernel_rfl) (by kernel_rfl)
  ) (by kernel_rfl) (by kernel_rfl)
  ) (by kernel_rfl) (by kernel_rfl)
end Go.Proofs.Ythnhijdfcmcnhaa
