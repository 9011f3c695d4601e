/- THE SEAT's TABLE OF TYPES, WRITTEN BY PROGRAM (types.py). -/
import Derived.Test.YtfegpmoephdkpaaDoorChecked
import Derived.Test.YtfegpmoephdkpaaDoorCxM
import Derived.KernelRfl
namespace Go.Proofs.YtfegpmoephdkpaaDoor
open Go Go.Cx
set_option maxRecDepth 100000
def Γ : List (Nat × TI) := [
  (2, ⟨.int .i64, 1, (some (.int .i64 0)), 8⟩),
  (3, ⟨.int .i64, 1, (some (.int .i64 0)), 8⟩),
  (4, ⟨.bool, 1, (some (.bool false)), 1⟩),
  (5, ⟨.int .u8, 1, (some (.int .u8 0)), 1⟩),
  (6, ⟨.int .u8, 1, (some (.int .u8 0)), 1⟩),
  (7, ⟨.struct #[⟨ "x", 2, 0, false, "", "runtime", 0⟩, ⟨ "y", 3, 1, false, "", "runtime", 8⟩, ⟨ "signed", 4, 2, false, "", "runtime", 16⟩, ⟨ "code", 6, 3, false, "", "runtime", 17⟩], 4, (some (.agg #[(.int .i64 0), (.int .i64 0), (.bool false), (.int .u8 0)])), 24⟩),
  (8, ⟨.struct #[⟨ "x", 2, 0, false, "", "runtime", 0⟩, ⟨ "y", 3, 1, false, "", "runtime", 8⟩, ⟨ "signed", 4, 2, false, "", "runtime", 16⟩, ⟨ "code", 6, 3, false, "", "runtime", 17⟩], 4, (some (.agg #[(.int .i64 0), (.int .i64 0), (.bool false), (.int .u8 0)])), 24⟩),
  (9, ⟨.string, 1, (some (.string ByteArray.empty)), 16⟩),
  (10, ⟨.string, 1, (some (.string ByteArray.empty)), 16⟩),
  (11, ⟨.string, 1, (some (.string ByteArray.empty)), 16⟩),
  (12, ⟨.int .u64, 1, (some (.int .u64 0)), 8⟩),
  (13, ⟨.struct #[⟨ "msg", 9, 0, false, "", "runtime", 0⟩, ⟨ "addr", 12, 1, false, "", "runtime", 16⟩], 2, (some (.agg #[(.string ByteArray.empty), (.int .u64 0)])), 24⟩),
  (14, ⟨.struct #[⟨ "msg", 9, 0, false, "", "runtime", 0⟩, ⟨ "addr", 12, 1, false, "", "runtime", 16⟩], 2, (some (.agg #[(.string ByteArray.empty), (.int .u64 0)])), 24⟩),
  (15, ⟨.pointer 153, 1, (some (.pointer none)), 8⟩),
  (16, ⟨.pointer 156, 1, (some (.pointer none)), 8⟩),
  (17, ⟨.pointer 164, 1, (some (.pointer none)), 8⟩),
  (18, ⟨.struct #[⟨ "typ", 17, 0, false, "", "internal/runtime/maps", 0⟩], 1, (some (.agg #[(.pointer none)])), 8⟩),
  (19, ⟨.struct #[⟨ "typ", 17, 0, false, "", "internal/runtime/maps", 0⟩], 1, (some (.agg #[(.pointer none)])), 8⟩),
  (21, ⟨.int .i32, 1, (some (.int .i32 0)), 4⟩),
  (22, ⟨.slice 55, 1, (some (.slice none 0 0)), 24⟩),
  (23, ⟨.slice 55, 1, (some (.slice none 0 0)), 24⟩),
  (24, ⟨.int .i64, 1, (some (.int .i64 0)), 8⟩),
  (27, ⟨.slice 73, 1, (some (.slice none 0 0)), 24⟩),
  (32, ⟨.slice 23, 1, (some (.slice none 0 0)), 24⟩),
  (33, ⟨.int .u64, 1, (some (.int .u64 0)), 8⟩),
  (34, ⟨.array 2 33, 2, (some (.agg #[(.int .u64 0), (.int .u64 0)])), 16⟩),
  (35, ⟨.array 2 33, 2, (some (.agg #[(.int .u64 0), (.int .u64 0)])), 16⟩),
  (36, ⟨.slice 27, 1, (some (.slice none 0 0)), 24⟩),
  (51, ⟨.slice 3, 1, (some (.slice none 0 0)), 24⟩),
  (52, ⟨.slice 5, 1, (some (.slice none 0 0)), 24⟩),
  (54, ⟨.struct #[⟨ "Var", 3, 0, false, "", "", 0⟩, ⟨ "No", 3, 1, false, "", "", 8⟩, ⟨ "Yes", 3, 2, false, "", "", 16⟩, ⟨ "Class", 4, 3, false, "", "", 24⟩], 4, (some (.agg #[(.int .i64 0), (.int .i64 0), (.int .i64 0), (.bool false)])), 32⟩),
  (55, ⟨.struct #[⟨ "Var", 3, 0, false, "", "", 0⟩, ⟨ "No", 3, 1, false, "", "", 8⟩, ⟨ "Yes", 3, 2, false, "", "", 16⟩, ⟨ "Class", 4, 3, false, "", "", 24⟩], 4, (some (.agg #[(.int .i64 0), (.int .i64 0), (.int .i64 0), (.bool false)])), 32⟩),
  (61, ⟨.slice 91, 1, (some (.slice none 0 0)), 24⟩),
  (62, ⟨.struct #[⟨ "N", 3, 0, false, "", "", 0⟩, ⟨ "L", 61, 1, false, "", "", 8⟩], 2, (some (.agg #[(.int .i64 0), (.slice none 0 0)])), 32⟩),
  (63, ⟨.struct #[⟨ "N", 3, 0, false, "", "", 0⟩, ⟨ "L", 61, 1, false, "", "", 8⟩], 2, (some (.agg #[(.int .i64 0), (.slice none 0 0)])), 32⟩),
  (67, ⟨.slice 35, 1, (some (.slice none 0 0)), 24⟩),
  (73, ⟨.struct #[⟨ "Var", 3, 0, false, "", "", 0⟩, ⟨ "No", 3, 1, false, "", "", 8⟩, ⟨ "Yes", 3, 2, false, "", "", 16⟩, ⟨ "Class", 4, 3, false, "", "", 24⟩], 4, (some (.agg #[(.int .i64 0), (.int .i64 0), (.int .i64 0), (.bool false)])), 32⟩),
  (82, ⟨.pointer 84, 1, (some (.pointer none)), 8⟩),
  (83, ⟨.struct #[⟨ "tree", 23, 0, false, "", "census/tree", 0⟩, ⟨ "rest", 9, 1, false, "", "census/tree", 24⟩], 2, (some (.agg #[(.slice none 0 0), (.string ByteArray.empty)])), 40⟩),
  (84, ⟨.struct #[⟨ "tree", 23, 0, false, "", "census/tree", 0⟩, ⟨ "rest", 9, 1, false, "", "census/tree", 24⟩], 2, (some (.agg #[(.slice none 0 0), (.string ByteArray.empty)])), 40⟩),
  (85, ⟨.struct #[⟨ "t", 27, 0, false, "", "census/censusref42", 0⟩, ⟨ "at", 3, 1, false, "", "census/censusref42", 24⟩], 2, (some (.agg #[(.slice none 0 0), (.int .i64 0)])), 32⟩),
  (86, ⟨.struct #[⟨ "t", 27, 0, false, "", "census/censusref42", 0⟩, ⟨ "at", 3, 1, false, "", "census/censusref42", 24⟩], 2, (some (.agg #[(.slice none 0 0), (.int .i64 0)])), 32⟩),
  (90, ⟨.struct #[⟨ "Kind", 3, 0, false, "", "", 0⟩, ⟨ "Lit", 3, 1, false, "", "", 8⟩, ⟨ "In", 51, 2, false, "", "", 16⟩], 3, (some (.agg #[(.int .i64 0), (.int .i64 0), (.slice none 0 0)])), 40⟩),
  (91, ⟨.struct #[⟨ "Kind", 3, 0, false, "", "", 0⟩, ⟨ "Lit", 3, 1, false, "", "", 8⟩, ⟨ "In", 51, 2, false, "", "", 16⟩], 3, (some (.agg #[(.int .i64 0), (.int .i64 0), (.slice none 0 0)])), 40⟩),
  (100, ⟨.slice 4, 1, (some (.slice none 0 0)), 24⟩),
  (102, ⟨.int .u64, 1, (some (.int .u64 0)), 8⟩),
  (103, ⟨.slice 9, 1, (some (.slice none 0 0)), 24⟩),
  (119, ⟨.array 24 5, 24, (some (.agg #[(.int .u8 0), (.int .u8 0), (.int .u8 0), (.int .u8 0), (.int .u8 0), (.int .u8 0), (.int .u8 0), (.int .u8 0), (.int .u8 0), (.int .u8 0), (.int .u8 0), (.int .u8 0), (.int .u8 0), (.int .u8 0), (.int .u8 0), (.int .u8 0), (.int .u8 0), (.int .u8 0), (.int .u8 0), (.int .u8 0), (.int .u8 0), (.int .u8 0), (.int .u8 0), (.int .u8 0)])), 24⟩),
  (126, ⟨.array 20 33, 20, (some (.agg #[(.int .u64 0), (.int .u64 0), (.int .u64 0), (.int .u64 0), (.int .u64 0), (.int .u64 0), (.int .u64 0), (.int .u64 0), (.int .u64 0), (.int .u64 0), (.int .u64 0), (.int .u64 0), (.int .u64 0), (.int .u64 0), (.int .u64 0), (.int .u64 0), (.int .u64 0), (.int .u64 0), (.int .u64 0), (.int .u64 0)])), 160⟩),
  (127, ⟨.int .u32, 1, (some (.int .u32 0)), 4⟩),
  (128, ⟨.array 65 5, 65, (some (.agg #[(.int .u8 0), (.int .u8 0), (.int .u8 0), (.int .u8 0), (.int .u8 0), (.int .u8 0), (.int .u8 0), (.int .u8 0), (.int .u8 0), (.int .u8 0), (.int .u8 0), (.int .u8 0), (.int .u8 0), (.int .u8 0), (.int .u8 0), (.int .u8 0), (.int .u8 0), (.int .u8 0), (.int .u8 0), (.int .u8 0), (.int .u8 0), (.int .u8 0), (.int .u8 0), (.int .u8 0), (.int .u8 0), (.int .u8 0), (.int .u8 0), (.int .u8 0), (.int .u8 0), (.int .u8 0), (.int .u8 0), (.int .u8 0), (.int .u8 0), (.int .u8 0), (.int .u8 0), (.int .u8 0), (.int .u8 0), (.int .u8 0), (.int .u8 0), (.int .u8 0), (.int .u8 0), (.int .u8 0), (.int .u8 0), (.int .u8 0), (.int .u8 0), (.int .u8 0), (.int .u8 0), (.int .u8 0), (.int .u8 0), (.int .u8 0), (.int .u8 0), (.int .u8 0), (.int .u8 0), (.int .u8 0), (.int .u8 0), (.int .u8 0), (.int .u8 0), (.int .u8 0), (.int .u8 0), (.int .u8 0), (.int .u8 0), (.int .u8 0), (.int .u8 0), (.int .u8 0), (.int .u8 0)])), 65⟩),
  (131, ⟨.int .i64, 1, (some (.int .i64 0)), 8⟩),
  (134, ⟨.pointer 142, 1, (some (.pointer none)), 8⟩),
  (141, ⟨.struct #[⟨ "Func", 9, 0, false, "", "", 0⟩, ⟨ "Num", 9, 1, false, "", "", 16⟩, ⟨ "Err", 116, 2, false, "", "", 32⟩], 3, (some (.agg #[(.string ByteArray.empty), (.string ByteArray.empty), .nilIface])), 48⟩),
  (142, ⟨.struct #[⟨ "Func", 9, 0, false, "", "", 0⟩, ⟨ "Num", 9, 1, false, "", "", 16⟩, ⟨ "Err", 116, 2, false, "", "", 32⟩], 3, (some (.agg #[(.string ByteArray.empty), (.string ByteArray.empty), .nilIface])), 48⟩),
  (144, ⟨.array 32 5, 32, (some (.agg #[(.int .u8 0), (.int .u8 0), (.int .u8 0), (.int .u8 0), (.int .u8 0), (.int .u8 0), (.int .u8 0), (.int .u8 0), (.int .u8 0), (.int .u8 0), (.int .u8 0), (.int .u8 0), (.int .u8 0), (.int .u8 0), (.int .u8 0), (.int .u8 0), (.int .u8 0), (.int .u8 0), (.int .u8 0), (.int .u8 0), (.int .u8 0), (.int .u8 0), (.int .u8 0), (.int .u8 0), (.int .u8 0), (.int .u8 0), (.int .u8 0), (.int .u8 0), (.int .u8 0), (.int .u8 0), (.int .u8 0), (.int .u8 0)])), 32⟩),
  (145, ⟨.array 64 5, 64, (some (.agg #[(.int .u8 0), (.int .u8 0), (.int .u8 0), (.int .u8 0), (.int .u8 0), (.int .u8 0), (.int .u8 0), (.int .u8 0), (.int .u8 0), (.int .u8 0), (.int .u8 0), (.int .u8 0), (.int .u8 0), (.int .u8 0), (.int .u8 0), (.int .u8 0), (.int .u8 0), (.int .u8 0), (.int .u8 0), (.int .u8 0), (.int .u8 0), (.int .u8 0), (.int .u8 0), (.int .u8 0), (.int .u8 0), (.int .u8 0), (.int .u8 0), (.int .u8 0), (.int .u8 0), (.int .u8 0), (.int .u8 0), (.int .u8 0), (.int .u8 0), (.int .u8 0), (.int .u8 0), (.int .u8 0), (.int .u8 0), (.int .u8 0), (.int .u8 0), (.int .u8 0), (.int .u8 0), (.int .u8 0), (.int .u8 0), (.int .u8 0), (.int .u8 0), (.int .u8 0), (.int .u8 0), (.int .u8 0), (.int .u8 0), (.int .u8 0), (.int .u8 0), (.int .u8 0), (.int .u8 0), (.int .u8 0), (.int .u8 0), (.int .u8 0), (.int .u8 0), (.int .u8 0), (.int .u8 0), (.int .u8 0), (.int .u8 0), (.int .u8 0), (.int .u8 0), (.int .u8 0)])), 64⟩),
  (147, ⟨.pointer 5, 1, (some (.pointer none)), 8⟩),
  (148, ⟨.pointer 150, 1, (some (.pointer none)), 8⟩),
  (149, ⟨.struct #[⟨ "s", 9, 0, false, "", "errors", 0⟩], 1, (some (.agg #[(.string ByteArray.empty)])), 16⟩),
  (150, ⟨.struct #[⟨ "s", 9, 0, false, "", "errors", 0⟩], 1, (some (.agg #[(.string ByteArray.empty)])), 16⟩),
  (152, ⟨.struct #[⟨ "_interface", 17, 0, false, "", "runtime", 0⟩, ⟨ "concrete", 17, 1, false, "", "runtime", 8⟩, ⟨ "asserted", 17, 2, false, "", "runtime", 16⟩, ⟨ "missingMethod", 9, 3, false, "", "runtime", 24⟩], 4, (some (.agg #[(.pointer none), (.pointer none), (.pointer none), (.string ByteArray.empty)])), 40⟩),
  (153, ⟨.struct #[⟨ "_interface", 17, 0, false, "", "runtime", 0⟩, ⟨ "concrete", 17, 1, false, "", "runtime", 8⟩, ⟨ "asserted", 17, 2, false, "", "runtime", 16⟩, ⟨ "missingMethod", 9, 3, false, "", "runtime", 24⟩], 4, (some (.agg #[(.pointer none), (.pointer none), (.pointer none), (.string ByteArray.empty)])), 40⟩),
  (154, ⟨.array 0 16, 0, (some (.agg #[])), 0⟩),
  (155, ⟨.struct #[⟨ "_", 154, 0, false, "", "runtime", 0⟩], 0, (some (.agg #[])), 0⟩),
  (156, ⟨.struct #[⟨ "_", 154, 0, false, "", "runtime", 0⟩], 0, (some (.agg #[])), 0⟩),
  (158, ⟨.int .u8, 1, (some (.int .u8 0)), 1⟩),
  (159, ⟨.int .u8, 1, (some (.int .u8 0)), 1⟩),
  (161, ⟨.int .i32, 1, (some (.int .i32 0)), 4⟩),
  (162, ⟨.int .i32, 1, (some (.int .i32 0)), 4⟩),
  (163, ⟨.struct #[⟨ "Size_", 12, 0, false, "", "", 0⟩, ⟨ "PtrBytes", 12, 1, false, "", "", 8⟩, ⟨ "Hash", 127, 2, false, "", "", 16⟩, ⟨ "TFlag", 158, 3, false, "", "", 20⟩, ⟨ "Align_", 5, 4, false, "", "", 21⟩, ⟨ "FieldAlign_", 5, 5, false, "", "", 22⟩, ⟨ "Kind_", 159, 6, false, "", "", 23⟩, ⟨ "Equal", 160, 7, false, "", "", 24⟩, ⟨ "GCData", 147, 8, false, "", "", 32⟩, ⟨ "Str", 161, 9, false, "", "", 40⟩, ⟨ "PtrToThis", 162, 10, false, "", "", 44⟩], 11, (some (.agg #[(.int .u64 0), (.int .u64 0), (.int .u32 0), (.int .u8 0), (.int .u8 0), (.int .u8 0), (.int .u8 0), .nilFunc, (.pointer none), (.int .i32 0), (.int .i32 0)])), 48⟩),
  (164, ⟨.struct #[⟨ "Size_", 12, 0, false, "", "", 0⟩, ⟨ "PtrBytes", 12, 1, false, "", "", 8⟩, ⟨ "Hash", 127, 2, false, "", "", 16⟩, ⟨ "TFlag", 158, 3, false, "", "", 20⟩, ⟨ "Align_", 5, 4, false, "", "", 21⟩, ⟨ "FieldAlign_", 5, 5, false, "", "", 22⟩, ⟨ "Kind_", 159, 6, false, "", "", 23⟩, ⟨ "Equal", 160, 7, false, "", "", 24⟩, ⟨ "GCData", 147, 8, false, "", "", 32⟩, ⟨ "Str", 161, 9, false, "", "", 40⟩, ⟨ "PtrToThis", 162, 10, false, "", "", 44⟩], 11, (some (.agg #[(.int .u64 0), (.int .u64 0), (.int .u32 0), (.int .u8 0), (.int .u8 0), (.int .u8 0), (.int .u8 0), .nilFunc, (.pointer none), (.int .i32 0), (.int .i32 0)])), 48⟩)
]
theorem hΓ : Fits Tryd.prog Γ :=
  .cons (
  .cons (
  .cons (
  .cons (
  .cons (
  .cons (
  .cons (
  .cons (
  .cons (
  .cons (
  .cons (
  .cons (
  .cons (
  .cons (
  .cons (
  .cons (
  .cons (
  .cons (
  .cons (
  .cons (
  .cons (
  .cons (
  .cons (
  .cons (
  .cons (
  .cons (
  .cons (
  .cons (
  .cons (
  .cons (
  .cons (
  .cons (
  .cons (
  .cons (
  .cons (
  .cons (
  .cons (
  .cons (
  .cons (
  .cons (
  .cons (
  .cons (
  .cons (
  .cons (
  .cons (
  .cons (
  .cons (
  .cons (
  .cons (
  .cons (
  .cons (
  .cons (
  .cons (
  .cons (
  .cons (
  .cons (
  .cons (
  .cons (
  .cons (
  .cons (
  .cons (
  .cons (
  .cons (
  .cons (
  .cons (
  .cons (
  .cons (
  .cons (
  .cons (
  .cons (
  .cons (
  .cons (
  Fits.nil _
  ) (by kernel_rfl) (by kernel_rfl)
  ) (by kernel_rfl) (by kernel_rfl)
  ) (by kernel_rfl) (by kernel_rfl)
  ) (by kernel_rfl) (by kernel_rfl)
  ) (by kernel_rfl) (by kernel_rfl)
  ) (by kernel_rfl) (by kernel_rfl)
  ) (by kernel_rfl) (by kernel_rfl)
  ) (by kernel_rfl) (by kernel_rfl)
  ) (by kernel_rfl) (by kernel_rfl)
  ) (by kernel_rfl) (by kernel_rfl)
  ) (by kernel_rfl) (by kernel_rfl)
  ) (by kernel_rfl) (by kernel_rfl)
  ) (by kernel_rfl) (by kernel_rfl)
  ) (by kernel_rfl) (by kernel_rfl)
  ) (by kernel_rfl) (by kernel_rfl)
  ) (by kernel_rfl) (by kernel_rfl)
  ) (by kernel_rfl) (by kernel_rfl)
  ) (by kernel_rfl) (by kernel_rfl)
  ) (by kernel_rfl) (by kernel_rfl)
  ) (by kernel_rfl) (by kernel_rfl)
  ) (by kernel_rfl) (by kernel_rfl)
  ) (by kernel_rfl) (by kernel_rfl)
  ) (by kernel_rfl) (by kernel_rfl)
  ) (by kernel_rfl) (by kernel_rfl)
  ) (by kernel_rfl) (by kernel_rfl)
  ) (by kernel_rfl) (by kernel_rfl)
  ) (by kernel_rfl) (by kernel_rfl)
  ) (by kernel_rfl) (by kernel_rfl)
  ) (by kernel_rfl) (by kernel_rfl)
  ) (by kernel_rfl) (by kernel_rfl)
  ) (by kernel_rfl) (by kernel_rfl)
  ) (by kernel_rfl) (by kernel_rfl)
  ) (by kernel_rfl) (by kernel_rfl)
  ) (by kernel_rfl) (by kernel_rfl)
  ) (by kernel_rfl) (by kernel_rfl)
  ) (by kernel_rfl) (by kernel_rfl)
  ) (by kernel_rfl) (by kernel_rfl)
  ) (by kernel_rfl) (by kernel_rfl)
  ) (by kernel_rfl) (by kernel_rfl)
  ) (by kernel_rfl) (by kernel_rfl)
  ) (by kernel_rfl) (by kernel_rfl)
  ) (by kernel_rfl) (by kernel_rfl)
  ) (by kernel_rfl) (by kernel_rfl)
  ) (by kernel_rfl) (by kernel_rfl)
  ) (by kernel_rfl) (by kernel_rfl)
  ) (by kernel_rfl) (by kernel_rfl)
  ) (by kernel_rfl) (by kernel_rfl)
  ) (by kernel_rfl) (by kernel_rfl)
  ) (by kernel_rfl) (by kernel_rfl)
  ) (by kernel_rfl) (by kernel_rfl)
  ) (by kernel_rfl) (by kernel_rfl)
  ) (by kernel_rfl) (by kernel_rfl)
  ) (by kernel_rfl) (by kernel_rfl)
  ) (by kernel_rfl) (by kernel_rfl)
  ) (by kernel_rfl) (by kernel_rfl)
  ) (by kernel_rfl) (by kernel_rfl)
  ) (by kernel_rfl) (by kernel_rfl)
  ) (by kernel_rfl) (by kernel_rfl)
  ) (by kernel_rfl) (by kernel_rfl)
  ) (by kernel_rfl) (by kernel_rfl)
  ) (by kernel_rfl) (by kernel_rfl)
  ) (by kernel_rfl) (by kernel_rfl)
  ) (by kernel_rfl) (by kernel_rfl)
  ) (by kernel_rfl) (by kernel_rfl)
  ) (by kernel_rfl) (by kernel_rfl)
  ) (by kernel_rfl) (by kernel_rfl)
  ) (by kernel_rfl) (by kernel_rfl)
  ) (by kernel_rfl) (by kernel_rfl)
  ) (by kernel_rfl) (by kernel_rfl)
  ) (by kernel_rfl) (by kernel_rfl)
  ) (by kernel_rfl) (by kernel_rfl)
  ) (by kernel_rfl) (by kernel_rfl)
end Go.Proofs.YtfegpmoephdkpaaDoor
