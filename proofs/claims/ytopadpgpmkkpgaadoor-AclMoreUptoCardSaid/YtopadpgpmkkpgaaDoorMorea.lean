/-
  AclMore: whatever the rules (at most 1048576 of them, and texts of at most so many bytes), the rule and the address, the statement's function hands back true.
-/
import Derived.Test.YtopadpgpmkkpgaaDoorProg
import Derived.Test.YtopadpgpmkkpgaaDoorSxb
set_option linter.unusedVariables false
set_option linter.unusedSimpArgs false
set_option linter.unnecessarySimpa false
namespace Go.Proofs.YtopadpgpmkkpgaaDoor
open Go.SX
def TT : List (Option Ty) := [
  none,
  some ⟨.fn, 1, 8, [.nilFunc], false⟩,
  some ⟨(.int .i64), 1, 8, [.int .i64 0], false⟩,
  some ⟨(.int .i64), 1, 8, [.int .i64 0], false⟩,
  some ⟨.bool, 1, 1, [.bool false], false⟩,
  some ⟨(.int .u8), 1, 1, [.int .u8 0], false⟩,
  some ⟨(.int .u8), 1, 1, [.int .u8 0], false⟩,
  some ⟨(.st [(0, 2), (1, 3), (2, 4), (3, 6)]), 4, 24, [.int .i64 0, .int .i64 0, .bool false, .int .u8 0], true⟩,
  some ⟨(.st [(0, 2), (1, 3), (2, 4), (3, 6)]), 4, 24, [.int .i64 0, .int .i64 0, .bool false, .int .u8 0], true⟩,
  some ⟨.str, 1, 16, [.string ⟨#[]⟩], false⟩,
  some ⟨.str, 1, 16, [.string ⟨#[]⟩], false⟩,
  some ⟨.str, 1, 16, [.string ⟨#[]⟩], false⟩,
  some ⟨(.int .u64), 1, 8, [.int .u64 0], false⟩,
  some ⟨(.st [(0, 9), (1, 12)]), 2, 24, [.string ⟨#[]⟩, .int .u64 0], false⟩,
  some ⟨(.st [(0, 9), (1, 12)]), 2, 24, [.string ⟨#[]⟩, .int .u64 0], false⟩,
  some ⟨(.ptr 139), 1, 8, [.pointer none], false⟩,
  some ⟨(.ptr 142), 1, 8, [.pointer none], false⟩,
  some ⟨(.ptr 150), 1, 8, [.pointer none], false⟩,
  some ⟨(.st [(0, 17)]), 1, 8, [.pointer none], false⟩,
  some ⟨(.st [(0, 17)]), 1, 8, [.pointer none], false⟩,
  some ⟨.ifc, 1, 16, [.nilIface], false⟩,
  some ⟨(.int .i32), 1, 4, [.int .i32 0], false⟩,
  some ⟨(.sl 36), 1, 24, [.slice none 0 0], false⟩,
  some ⟨(.sl 32), 1, 24, [.slice none 0 0], false⟩,
  some ⟨.fn, 1, 8, [.nilFunc], false⟩,
  some ⟨(.ptr 58), 1, 8, [.pointer none], false⟩,
  some ⟨(.int .i64), 1, 8, [.int .i64 0], false⟩,
  none,
  some ⟨.fn, 1, 8, [.nilFunc], false⟩,
  some ⟨.fn, 1, 8, [.nilFunc], false⟩,
  some ⟨(.int .u64), 1, 8, [.int .u64 0], false⟩,
  some ⟨(.st [(0, 4), (1, 30), (2, 30)]), 3, 24, [.bool false, .int .u64 0, .int .u64 0], true⟩,
  some ⟨(.st [(0, 4), (1, 30), (2, 30)]), 3, 24, [.bool false, .int .u64 0, .int .u64 0], true⟩,
  some ⟨(.st [(0, 32), (3, 3)]), 4, 32, [.bool false, .int .u64 0, .int .u64 0, .int .i64 0], true⟩,
  some ⟨(.st [(0, 32), (3, 3)]), 4, 32, [.bool false, .int .u64 0, .int .u64 0, .int .i64 0], true⟩,
  some ⟨(.st [(0, 34), (4, 3)]), 5, 40, [.bool false, .int .u64 0, .int .u64 0, .int .i64 0, .int .i64 0], true⟩,
  some ⟨(.st [(0, 34), (4, 3)]), 5, 40, [.bool false, .int .u64 0, .int .u64 0, .int .i64 0, .int .i64 0], true⟩,
  none,
  some ⟨.fn, 1, 8, [.nilFunc], false⟩,
  some ⟨.fn, 1, 8, [.nilFunc], false⟩,
  some ⟨.fn, 1, 8, [.nilFunc], false⟩,
  none,
  some ⟨.fn, 1, 8, [.nilFunc], false⟩,
  none,
  some ⟨.fn, 1, 8, [.nilFunc], false⟩,
  some ⟨.fn, 1, 8, [.nilFunc], false⟩,
  some ⟨.fn, 1, 8, [.nilFunc], false⟩,
  some ⟨.fn, 1, 8, [.nilFunc], false⟩,
  some ⟨.fn, 1, 8, [.nilFunc], false⟩,
  some ⟨.fn, 1, 8, [.nilFunc], false⟩,
  some ⟨.fn, 1, 8, [.nilFunc], false⟩,
  some ⟨(.ptr 55), 1, 8, [.pointer none], false⟩,
  some ⟨(.arr 2 51), 2, 16, [.pointer none, .pointer none], false⟩,
  some ⟨(.ptr 36), 1, 8, [.pointer none], false⟩,
  some ⟨(.st [(0, 52), (2, 53)]), 3, 24, [.pointer none, .pointer none, .pointer none], true⟩,
  some ⟨(.st [(0, 52), (2, 53)]), 3, 24, [.pointer none, .pointer none, .pointer none], true⟩,
  some ⟨(.arr 2 55), 6, 48, [.pointer none, .pointer none, .pointer none, .pointer none, .pointer none, .pointer none], false⟩,
  some ⟨(.st [(0, 56)]), 6, 48, [.pointer none, .pointer none, .pointer none, .pointer none, .pointer none, .pointer none], true⟩,
  some ⟨(.st [(0, 56)]), 6, 48, [.pointer none, .pointer none, .pointer none, .pointer none, .pointer none, .pointer none], true⟩,
  some ⟨.fn, 1, 8, [.nilFunc], false⟩,
  some ⟨.fn, 1, 8, [.nilFunc], false⟩,
  some ⟨(.st [(0, 30), (1, 30), (2, 3)]), 3, 24, [.int .u64 0, .int .u64 0, .int .i64 0], true⟩,
  some ⟨(.st [(0, 30), (1, 30), (2, 3)]), 3, 24, [.int .u64 0, .int .u64 0, .int .i64 0], true⟩,
  some ⟨.fn, 1, 8, [.nilFunc], false⟩,
  some ⟨(.ptr 51), 1, 8, [.pointer none], false⟩,
  some ⟨.fn, 1, 8, [.nilFunc], false⟩,
  none,
  some ⟨.fn, 1, 8, [.nilFunc], false⟩,
  some ⟨(.sl 9), 1, 24, [.slice none 0 0], false⟩,
  some ⟨.fn, 1, 8, [.nilFunc], false⟩,
  some ⟨.fn, 1, 8, [.nilFunc], false⟩,
  some ⟨.fn, 1, 8, [.nilFunc], false⟩,
  some ⟨.fn, 1, 8, [.nilFunc], false⟩,
  some ⟨.ifc, 1, 16, [.nilIface], false⟩,
  some ⟨.ifc, 1, 16, [.nilIface], false⟩,
  none,
  some ⟨.fn, 1, 8, [.nilFunc], false⟩,
  some ⟨(.int .u64), 1, 8, [.int .u64 0], false⟩,
  some ⟨.fn, 1, 8, [.nilFunc], false⟩,
  none,
  some ⟨.fn, 1, 8, [.nilFunc], false⟩,
  some ⟨.fn, 1, 8, [.nilFunc], false⟩,
  some ⟨(.ptr 85), 1, 8, [.pointer none], false⟩,
  some ⟨(.sl 5), 1, 24, [.slice none 0 0], false⟩,
  some ⟨(.st [(0, 82), (1, 83)]), 2, 32, [.pointer none, .slice none 0 0], true⟩,
  some ⟨(.st [(0, 82), (1, 83)]), 2, 32, [.pointer none, .slice none 0 0], true⟩,
  some ⟨.fn, 1, 8, [.nilFunc], false⟩,
  none,
  some ⟨.fn, 1, 8, [.nilFunc], false⟩,
  some ⟨.fn, 1, 8, [.nilFunc], false⟩,
  some ⟨.fn, 1, 8, [.nilFunc], false⟩,
  some ⟨.fn, 1, 8, [.nilFunc], false⟩,
  some ⟨.fn, 1, 8, [.nilFunc], false⟩,
  some ⟨.fn, 1, 8, [.nilFunc], false⟩,
  some ⟨.fn, 1, 8, [.nilFunc], false⟩,
  some ⟨(.arr 24 5), 24, 24, [.int .u8 0, .int .u8 0, .int .u8 0, .int .u8 0, .int .u8 0, .int .u8 0, .int .u8 0, .int .u8 0, .int .u8 0, .int .u8 0, .int .u8 0, .int .u8 0, .int .u8 0, .int .u8 0, .int .u8 0, .int .u8 0, .int .u8 0, .int .u8 0, .int .u8 0, .int .u8 0, .int .u8 0, .int .u8 0, .int .u8 0, .int .u8 0], false⟩,
  some ⟨.fn, 1, 8, [.nilFunc], false⟩,
  some ⟨.fn, 1, 8, [.nilFunc], false⟩,
  none,
  some ⟨.fn, 1, 8, [.nilFunc], false⟩,
  some ⟨(.ptr 5), 1, 8, [.pointer none], false⟩,
  some ⟨.fn, 1, 8, [.nilFunc], false⟩,
  some ⟨(.int .i64), 1, 8, [.int .i64 0], false⟩,
  some ⟨.fn, 1, 8, [.nilFunc], false⟩,
  some ⟨.fn, 1, 8, [.nilFunc], false⟩,
  some ⟨(.ptr 123), 1, 8, [.pointer none], false⟩,
  some ⟨.fn, 1, 8, [.nilFunc], false⟩,
  some ⟨.fn, 1, 8, [.nilFunc], false⟩,
  some ⟨.fn, 1, 8, [.nilFunc], false⟩,
  some ⟨(.arr 20 30), 20, 160, [.int .u64 0, .int .u64 0, .int .u64 0, .int .u64 0, .int .u64 0, .int .u64 0, .int .u64 0, .int .u64 0, .int .u64 0, .int .u64 0, .int .u64 0, .int .u64 0, .int .u64 0, .int .u64 0, .int .u64 0, .int .u64 0, .int .u64 0, .int .u64 0, .int .u64 0, .int .u64 0], false⟩,
  some ⟨(.int .u32), 1, 4, [.int .u32 0], false⟩,
  some ⟨(.arr 65 5), 65, 65, [.int .u8 0, .int .u8 0, .int .u8 0, .int .u8 0, .int .u8 0, .int .u8 0, .int .u8 0, .int .u8 0, .int .u8 0, .int .u8 0, .int .u8 0, .int .u8 0, .int .u8 0, .int .u8 0, .int .u8 0, .int .u8 0, .int .u8 0, .int .u8 0, .int .u8 0, .int .u8 0, .int .u8 0, .int .u8 0, .int .u8 0, .int .u8 0, .int .u8 0, .int .u8 0, .int .u8 0, .int .u8 0, .int .u8 0, .int .u8 0, .int .u8 0, .int .u8 0, .int .u8 0, .int .u8 0, .int .u8 0, .int .u8 0, .int .u8 0, .int .u8 0, .int .u8 0, .int .u8 0, .int .u8 0, .int .u8 0, .int .u8 0, .int .u8 0, .int .u8 0, .int .u8 0, .int .u8 0, .int .u8 0, .int .u8 0, .int .u8 0, .int .u8 0, .int .u8 0, .int .u8 0, .int .u8 0, .int .u8 0, .int .u8 0, .int .u8 0, .int .u8 0, .int .u8 0, .int .u8 0, .int .u8 0, .int .u8 0, .int .u8 0, .int .u8 0, .int .u8 0], false⟩,
  some ⟨.fn, 1, 8, [.nilFunc], false⟩,
  some ⟨.fn, 1, 8, [.nilFunc], false⟩,
  some ⟨.oth, 1, 8, [.pointer none], false⟩,
  some ⟨.fn, 1, 8, [.nilFunc], false⟩,
  some ⟨.fn, 1, 8, [.nilFunc], false⟩,
  some ⟨.fn, 1, 8, [.nilFunc], false⟩,
  some ⟨.fn, 1, 8, [.nilFunc], false⟩,
  none,
  some ⟨.fn, 1, 8, [.nilFunc], false⟩,
  some ⟨.fn, 1, 8, [.nilFunc], false⟩,
  some ⟨(.st [(0, 9), (1, 9), (2, 74)]), 3, 48, [.string ⟨#[]⟩, .string ⟨#[]⟩, .nilIface], false⟩,
  some ⟨(.st [(0, 9), (1, 9), (2, 74)]), 3, 48, [.string ⟨#[]⟩, .string ⟨#[]⟩, .nilIface], false⟩,
  some ⟨.fn, 1, 8, [.nilFunc], false⟩,
  some ⟨.fn, 1, 8, [.nilFunc], false⟩,
  none,
  some ⟨.fn, 1, 8, [.nilFunc], false⟩,
  some ⟨(.ptr 130), 1, 8, [.pointer none], false⟩,
  some ⟨(.st [(0, 9)]), 1, 16, [.string ⟨#[]⟩], true⟩,
  some ⟨(.st [(0, 9)]), 1, 16, [.string ⟨#[]⟩], true⟩,
  some ⟨(.arr 32 5), 32, 32, [.int .u8 0, .int .u8 0, .int .u8 0, .int .u8 0, .int .u8 0, .int .u8 0, .int .u8 0, .int .u8 0, .int .u8 0, .int .u8 0, .int .u8 0, .int .u8 0, .int .u8 0, .int .u8 0, .int .u8 0, .int .u8 0, .int .u8 0, .int .u8 0, .int .u8 0, .int .u8 0, .int .u8 0, .int .u8 0, .int .u8 0, .int .u8 0, .int .u8 0, .int .u8 0, .int .u8 0, .int .u8 0, .int .u8 0, .int .u8 0, .int .u8 0, .int .u8 0], false⟩,
  some ⟨(.arr 64 5), 64, 64, [.int .u8 0, .int .u8 0, .int .u8 0, .int .u8 0, .int .u8 0, .int .u8 0, .int .u8 0, .int .u8 0, .int .u8 0, .int .u8 0, .int .u8 0, .int .u8 0, .int .u8 0, .int .u8 0, .int .u8 0, .int .u8 0, .int .u8 0, .int .u8 0, .int .u8 0, .int .u8 0, .int .u8 0, .int .u8 0, .int .u8 0, .int .u8 0, .int .u8 0, .int .u8 0, .int .u8 0, .int .u8 0, .int .u8 0, .int .u8 0, .int .u8 0, .int .u8 0, .int .u8 0, .int .u8 0, .int .u8 0, .int .u8 0, .int .u8 0, .int .u8 0, .int .u8 0, .int .u8 0, .int .u8 0, .int .u8 0, .int .u8 0, .int .u8 0, .int .u8 0, .int .u8 0, .int .u8 0, .int .u8 0, .int .u8 0, .int .u8 0, .int .u8 0, .int .u8 0, .int .u8 0, .int .u8 0, .int .u8 0, .int .u8 0, .int .u8 0, .int .u8 0, .int .u8 0, .int .u8 0, .int .u8 0, .int .u8 0, .int .u8 0, .int .u8 0], false⟩,
  some ⟨(.arr 256 5), 256, 256, [.int .u8 0, .int .u8 0, .int .u8 0, .int .u8 0, .int .u8 0, .int .u8 0, .int .u8 0, .int .u8 0, .int .u8 0, .int .u8 0, .int .u8 0, .int .u8 0, .int .u8 0, .int .u8 0, .int .u8 0, .int .u8 0, .int .u8 0, .int .u8 0, .int .u8 0, .int .u8 0, .int .u8 0, .int .u8 0, .int .u8 0, .int .u8 0, .int .u8 0, .int .u8 0, .int .u8 0, .int .u8 0, .int .u8 0, .int .u8 0, .int .u8 0, .int .u8 0, .int .u8 0, .int .u8 0, .int .u8 0, .int .u8 0, .int .u8 0, .int .u8 0, .int .u8 0, .int .u8 0, .int .u8 0, .int .u8 0, .int .u8 0, .int .u8 0, .int .u8 0, .int .u8 0, .int .u8 0, .int .u8 0, .int .u8 0, .int .u8 0, .int .u8 0, .int .u8 0, .int .u8 0, .int .u8 0, .int .u8 0, .int .u8 0, .int .u8 0, .int .u8 0, .int .u8 0, .int .u8 0, .int .u8 0, .int .u8 0, .int .u8 0, .int .u8 0, .int .u8 0, .int .u8 0, .int .u8 0, .int .u8 0, .int .u8 0, .int .u8 0, .int .u8 0, .int .u8 0, .int .u8 0, .int .u8 0, .int .u8 0, .int .u8 0, .int .u8 0, .int .u8 0, .int .u8 0, .int .u8 0, .int .u8 0, .int .u8 0, .int .u8 0, .int .u8 0, .int .u8 0, .int .u8 0, .int .u8 0, .int .u8 0, .int .u8 0, .int .u8 0, .int .u8 0, .int .u8 0, .int .u8 0, .int .u8 0, .int .u8 0, .int .u8 0, .int .u8 0, .int .u8 0, .int .u8 0, .int .u8 0, .int .u8 0, .int .u8 0, .int .u8 0, .int .u8 0, .int .u8 0, .int .u8 0, .int .u8 0, .int .u8 0, .int .u8 0, .int .u8 0, .int .u8 0, .int .u8 0, .int .u8 0, .int .u8 0, .int .u8 0, .int .u8 0, .int .u8 0, .int .u8 0, .int .u8 0, .int .u8 0, .int .u8 0, .int .u8 0, .int .u8 0, .int .u8 0, .int .u8 0, .int .u8 0, .int .u8 0, .int .u8 0, .int .u8 0, .int .u8 0, .int .u8 0, .int .u8 0, .int .u8 0, .int .u8 0, .int .u8 0, .int .u8 0, .int .u8 0, .int .u8 0, .int .u8 0, .int .u8 0, .int .u8 0, .int .u8 0, .int .u8 0, .int .u8 0, .int .u8 0, .int .u8 0, .int .u8 0, .int .u8 0, .int .u8 0, .int .u8 0, .int .u8 0, .int .u8 0, .int .u8 0, .int .u8 0, .int .u8 0, .int .u8 0, .int .u8 0, .int .u8 0, .int .u8 0, .int .u8 0, .int .u8 0, .int .u8 0, .int .u8 0, .int .u8 0, .int .u8 0, .int .u8 0, .int .u8 0, .int .u8 0, .int .u8 0, .int .u8 0, .int .u8 0, .int .u8 0, .int .u8 0, .int .u8 0, .int .u8 0, .int .u8 0, .int .u8 0, .int .u8 0, .int .u8 0, .int .u8 0, .int .u8 0, .int .u8 0, .int .u8 0, .int .u8 0, .int .u8 0, .int .u8 0, .int .u8 0, .int .u8 0, .int .u8 0, .int .u8 0, .int .u8 0, .int .u8 0, .int .u8 0, .int .u8 0, .int .u8 0, .int .u8 0, .int .u8 0, .int .u8 0, .int .u8 0, .int .u8 0, .int .u8 0, .int .u8 0, .int .u8 0, .int .u8 0, .int .u8 0, .int .u8 0, .int .u8 0, .int .u8 0, .int .u8 0, .int .u8 0, .int .u8 0, .int .u8 0, .int .u8 0, .int .u8 0, .int .u8 0, .int .u8 0, .int .u8 0, .int .u8 0, .int .u8 0, .int .u8 0, .int .u8 0, .int .u8 0, .int .u8 0, .int .u8 0, .int .u8 0, .int .u8 0, .int .u8 0, .int .u8 0, .int .u8 0, .int .u8 0, .int .u8 0, .int .u8 0, .int .u8 0, .int .u8 0, .int .u8 0, .int .u8 0, .int .u8 0, .int .u8 0, .int .u8 0, .int .u8 0, .int .u8 0, .int .u8 0, .int .u8 0, .int .u8 0, .int .u8 0, .int .u8 0, .int .u8 0, .int .u8 0, .int .u8 0, .int .u8 0, .int .u8 0, .int .u8 0, .int .u8 0, .int .u8 0, .int .u8 0, .int .u8 0], false⟩,
  some ⟨(.st [(0, 5), (1, 5)]), 2, 2, [.int .u8 0, .int .u8 0], true⟩,
  some ⟨(.st [(0, 5), (1, 5)]), 2, 2, [.int .u8 0, .int .u8 0], true⟩,
  some ⟨(.arr 16 135), 32, 32, [.int .u8 0, .int .u8 0, .int .u8 0, .int .u8 0, .int .u8 0, .int .u8 0, .int .u8 0, .int .u8 0, .int .u8 0, .int .u8 0, .int .u8 0, .int .u8 0, .int .u8 0, .int .u8 0, .int .u8 0, .int .u8 0, .int .u8 0, .int .u8 0, .int .u8 0, .int .u8 0, .int .u8 0, .int .u8 0, .int .u8 0, .int .u8 0, .int .u8 0, .int .u8 0, .int .u8 0, .int .u8 0, .int .u8 0, .int .u8 0, .int .u8 0, .int .u8 0], false⟩,
  some ⟨.fn, 1, 8, [.nilFunc], false⟩,
  some ⟨(.st [(0, 17), (1, 17), (2, 17), (3, 9)]), 4, 40, [.pointer none, .pointer none, .pointer none, .string ⟨#[]⟩], false⟩,
  some ⟨(.st [(0, 17), (1, 17), (2, 17), (3, 9)]), 4, 40, [.pointer none, .pointer none, .pointer none, .string ⟨#[]⟩], false⟩,
  some ⟨(.arr 0 16), 0, 0, [], false⟩,
  some ⟨(.st [(0, 140)]), 0, 0, [], false⟩,
  some ⟨(.st [(0, 140)]), 0, 0, [], false⟩,
  some ⟨.fn, 1, 8, [.nilFunc], false⟩,
  some ⟨(.int .u8), 1, 1, [.int .u8 0], false⟩,
  some ⟨(.int .u8), 1, 1, [.int .u8 0], false⟩,
  some ⟨.fn, 1, 8, [.nilFunc], false⟩,
  some ⟨(.int .i32), 1, 4, [.int .i32 0], false⟩,
  some ⟨(.int .i32), 1, 4, [.int .i32 0], false⟩,
  some ⟨(.st [(0, 12), (1, 12), (2, 110), (3, 144), (4, 5), (5, 5), (6, 145), (7, 146), (8, 100), (9, 147), (10, 148)]), 11, 48, [.int .u64 0, .int .u64 0, .int .u32 0, .int .u8 0, .int .u8 0, .int .u8 0, .int .u8 0, .nilFunc, .pointer none, .int .i32 0, .int .i32 0], false⟩,
  some ⟨(.st [(0, 12), (1, 12), (2, 110), (3, 144), (4, 5), (5, 5), (6, 145), (7, 146), (8, 100), (9, 147), (10, 148)]), 11, 48, [.int .u64 0, .int .u64 0, .int .u32 0, .int .u8 0, .int .u8 0, .int .u8 0, .int .u8 0, .nilFunc, .pointer none, .int .i32 0, .int .i32 0], false⟩]

theorem TTok (n : Nat) (I : World → Prop) : Ctx.ok ⟨Tryd.prog, TT, n, I⟩ := Ctx.ok_of (by kernel_rfl) n I
theorem mixed : Tryd.prog.follows .mixedOrders = true := by kernel_rfl
end Go.Proofs.YtopadpgpmkkpgaaDoor
namespace Go.Proofs.YtopadpgpmkkpgaaDoor
open Go.SX
def GG : Nat → Option (List Value)
  | 0 => some [.int .u64 1, .int .u64 10, .int .u64 100, .int .u64 1000, .int .u64 10000, .int .u64 100000, .int .u64 1000000, .int .u64 10000000, .int .u64 100000000, .int .u64 1000000000, .int .u64 10000000000, .int .u64 100000000000, .int .u64 1000000000000, .int .u64 10000000000000, .int .u64 100000000000000, .int .u64 1000000000000000, .int .u64 10000000000000000, .int .u64 100000000000000000, .int .u64 1000000000000000000, .int .u64 10000000000000000000]
  | 5 => some [.int .u8 0, .int .u8 1, .int .u8 56, .int .u8 2, .int .u8 57, .int .u8 49, .int .u8 28, .int .u8 3, .int .u8 61, .int .u8 58, .int .u8 42, .int .u8 50, .int .u8 38, .int .u8 29, .int .u8 17, .int .u8 4, .int .u8 62, .int .u8 47, .int .u8 59, .int .u8 36, .int .u8 45, .int .u8 43, .int .u8 51, .int .u8 22, .int .u8 53, .int .u8 39, .int .u8 33, .int .u8 30, .int .u8 24, .int .u8 18, .int .u8 12, .int .u8 5, .int .u8 63, .int .u8 55, .int .u8 48, .int .u8 27, .int .u8 60, .int .u8 41, .int .u8 37, .int .u8 16, .int .u8 46, .int .u8 35, .int .u8 44, .int .u8 21, .int .u8 52, .int .u8 32, .int .u8 23, .int .u8 11, .int .u8 54, .int .u8 26, .int .u8 40, .int .u8 15, .int .u8 34, .int .u8 20, .int .u8 31, .int .u8 10, .int .u8 25, .int .u8 14, .int .u8 19, .int .u8 9, .int .u8 13, .int .u8 8, .int .u8 7, .int .u8 6]
  | _ => none
end Go.Proofs.YtopadpgpmkkpgaaDoor
set_option maxRecDepth 100000
namespace Go.Proofs.YtopadpgpmkkpgaaDoor
open Go.SX
def rightM (v6 : Bool) (hi lo : Int) : Bool := v6 || (hi == 0 && lo / 4294967296 == 0)
theorem right_ret (v6 : Bool) (hi lo : Int) (w : World) : Ret Tryd.prog 15 [.agg #[.bool v6, .int .u64 hi, .int .u64 lo]] w (.bool (rightM v6 hi lo)) := by
  refine Ret.of (I := fun _ => True) (fun _ _ => trivial) (TTok 0 _) Tryd.func15 (by kernel_rfl) rfl rfl ?_
  repeat' ((conv => whnf); with_reducible first
    | refine TR.seq ?_ | refine TR.region (TTok 0 _) ?_ | refine Ld.mk' _ rfl ?_ | refine TR.ret ?_ | refine TR.drawn (TTok 0 _) mixed ?_
    | refine Br.mk (fun _ => ?_) (fun _ => ?_) | refine Sh.shrL ?_ | refine Sh.shlL ?_ | refine Nm.fd (by decide) ?_ | refine Nm.i64 (by omega) ?_)
  all_goals (conv => whnf)
  all_goals simp_all [val, rightM]
theorem refright_ret (v6 : Bool) (hi lo : Int) (w : World) (h0 : 0 ≤ lo) : Ret Tryd.prog 30 [.agg #[.bool v6, .int .u64 hi, .int .u64 lo]] w (.bool (rightM v6 hi lo)) := by
  refine Ret.of (I := fun _ => True) (fun _ _ => trivial) (TTok 0 _) Tryd.func30 (by kernel_rfl) rfl rfl ?_
  repeat' ((conv => whnf); with_reducible first
    | refine TR.seq ?_ | refine TR.region (TTok 0 _) ?_ | refine Ld.mk' _ rfl ?_ | refine TR.ret ?_ | refine TR.drawn (TTok 0 _) mixed ?_
    | refine Br.mk (fun _ => ?_) (fun _ => ?_))
  all_goals (conv => whnf)
  all_goals simp_all [val, rightM]
  all_goals (rw [Bool.eq_iff_iff]; simp; omega)
theorem width_ret (v6 : Bool) (hi lo : Int) (w : World) : Ret Tryd.prog 33 [.agg #[.bool v6, .int .u64 hi, .int .u64 lo]] w (.int .i64 (if v6 then 128 else 32)) := by
  refine Ret.of (I := fun _ => True) (fun _ _ => trivial) (TTok 0 _) Tryd.func33 (by kernel_rfl) rfl rfl ?_
  repeat' ((conv => whnf); with_reducible first
    | refine TR.seq ?_ | refine TR.region (TTok 0 _) ?_ | refine Ld.mk' _ rfl ?_ | refine TR.ret ?_ | refine TR.drawn (TTok 0 _) mixed ?_
    | refine TR.cond (t := v6) rfl (fun _ => ?_) (fun _ => ?_) | refine TR.skip ?_ | refine Br.mk (fun _ => ?_) (fun _ => ?_))
  all_goals (conv => whnf)
  all_goals simp_all [val]
def pathM (v6 : Bool) (hi lo : Int) : Value := if v6 then .agg #[.int .u64 hi, .int .u64 lo, .int .i64 128] else .agg #[.int .u64 (IntKind.u64.wrap (lo * 4294967296)), .int .u64 0, .int .i64 32]
theorem pathOf_ret (v6 : Bool) (hi lo : Int) (w : World) : Ret Tryd.prog 21 [.agg #[.bool v6, .int .u64 hi, .int .u64 lo]] w (pathM v6 hi lo) := by
  refine Ret.of (I := fun _ => True) (fun _ _ => trivial) (TTok 0 _) Tryd.func21 (by kernel_rfl) rfl rfl ?_
  repeat' ((conv => whnf); with_reducible first
    | refine TR.seq ?_ | refine TR.region (TTok 0 _) ?_ | refine Ld.mk' _ rfl ?_ | refine TR.ret ?_ | refine TR.drawn (TTok 0 _) mixed ?_
    | refine TR.cond (t := v6) rfl (fun _ => ?_) (fun _ => ?_) | refine TR.skip ?_ | refine Br.mk (fun _ => ?_) (fun _ => ?_) | refine Sh.shlL ?_ | refine Nm.keep ?_)
  all_goals (conv => whnf)
  all_goals simp_all [val, valL, pathM]
def bitM (hi lo k : Int) : Int := if k < 64 then hi / 2 ^ (63 - k).toNat % 2 else lo / 2 ^ (127 - k).toNat % 2
theorem bit_ret (hi lo wide k : Int) (w : World) (h0 : 0 ≤ k) (h1 : k < 128) (hh : 0 ≤ hi ∧ hi ≤ 18446744073709551615) (hl : 0 ≤ lo ∧ lo ≤ 18446744073709551615) : Ret Tryd.prog 22 [.agg #[.int .u64 hi, .int .u64 lo, .int .i64 wide], .int .i64 k] w (.int .i64 (bitM hi lo k)) := by
  have d1 := div_pow_range hh (63 - k).toNat
  have d2 := div_pow_range hl (127 - k).toNat
  refine Ret.of (I := fun _ => True) (fun _ _ => trivial) (TTok 0 _) Tryd.func22 (by kernel_rfl) rfl rfl ?_
  repeat' ((conv => whnf); with_reducible first
    | refine TR.seq ?_ | refine TR.region (TTok 0 _) ?_ | refine Ld.mk' _ rfl ?_ | refine TR.ret ?_ | refine TR.drawn (TTok 0 _) mixed ?_
    | refine TR.cond_dec (p := k < 64) rfl (fun _ => ?_) (fun _ => ?_) | refine TR.skip ?_
    | refine Br.mk (fun _ => ?_) (fun _ => ?_) | refine Sh.shr64 (by omega) ?_ | refine Nm.and1 (by assumption) ?_ | refine Nm.i64 (by omega) ?_)
  all_goals (conv => whnf)
  all_goals simp_all [val, bitM]
  all_goals (try (intro _; omega))
def restHi (hi k : Int) : Int := if 64 ≤ k then 0 else IntKind.u64.wrap (hi * 2 ^ k.toNat)
def restLo (lo k : Int) : Int := if 64 ≤ k then IntKind.u64.wrap (lo * 2 ^ (k - 64).toNat) else lo
theorem rest_ret (hi lo wide k : Int) (w : World) (h0 : 0 ≤ k) (h1 : k ≤ 128) : Ret Tryd.prog 32 [.agg #[.int .u64 hi, .int .u64 lo, .int .i64 wide], .int .i64 k] w (.tuple #[.int .u64 (restHi hi k), .int .u64 (restLo lo k)]) := by
  refine Ret.of (I := fun _ => True) (fun _ _ => trivial) (TTok 0 _) Tryd.func32 (by kernel_rfl) rfl rfl ?_
  repeat' ((conv => whnf); with_reducible first
    | refine TR.seq ?_ | refine TR.region (TTok 0 _) ?_ | refine Ld.mk' _ rfl ?_ | refine TR.ret ?_ | refine TR.drawn (TTok 0 _) mixed ?_
    | refine TR.cond_dec (p := k ≥ 64) rfl (fun _ => ?_) (fun _ => ?_) | refine TR.skip ?_ | refine Need.mk' (by kernel_rfl) (fun _ => ?_)
    | refine Br.mk (fun _ => ?_) (fun _ => ?_) | refine Sh.shl64 (by omega) ?_ | refine Nm.i64 (by omega) ?_)
  all_goals (conv => whnf)
  all_goals simp_all [val, valL, restHi, restLo]
  all_goals (try omega)
def prefM (v6 : Bool) (hi lo bits : Int) : Bool :=
  rightM v6 hi lo && !(decide (bits < 0)) && !(decide (bits > if v6 then 128 else 32)) && (if v6 then restHi hi bits == 0 && restLo lo bits == 0 else restHi (IntKind.u64.wrap (lo * 4294967296)) bits == 0 && restLo 0 bits == 0)
theorem pref_ret (v6 : Bool) (hi lo bits : Int) (w : World) : Ret Tryd.prog 19 [.agg #[.bool v6, .int .u64 hi, .int .u64 lo, .int .i64 bits]] w (.bool (prefM v6 hi lo bits)) := by
  have p1 : ∀ w, Ret Tryd.prog 21 [.agg #[.bool v6, .int .u64 hi, .int .u64 lo]] w (pathM v6 hi lo) := fun w => pathOf_ret v6 hi lo w
  have hv : v6 = true ∨ v6 = false := by cases v6 <;> simp
  rcases hv with hv | hv
  all_goals subst hv
  all_goals simp only [pathM, if_true, Bool.false_eq_true, if_false] at p1
  all_goals refine Ret.of (I := fun _ => True) (fun _ _ => trivial) (TTok 0 _) Tryd.func19 (by kernel_rfl) rfl rfl ?_
  all_goals repeat' ((conv => whnf); with_reducible first
    | refine TR.seq ?_ | refine TR.region (TTok 0 _) ?_ | refine Ld.mk' _ rfl ?_ | refine TR.ret ?_ | refine TR.drawn (TTok 0 _) mixed ?_
    | refine TR.cond_true rfl ?_ | refine TR.cond_false rfl ?_ | refine TR.cond rfl (fun _ => ?_) (fun _ => ?_) | refine TR.skip ?_ | refine Need.mk' (by kernel_rfl) (fun _ => ?_)
    | refine Br.mk (fun _ => ?_) (fun _ => ?_) | refine x_ret (f := 15) rfl rfl (fun w _ => right_ret _ _ _ w) ?_ | refine x_ret (f := 21) rfl rfl (fun w _ => p1 w) ?_
    | refine x_ret (f := 32) rfl rfl (fun w _ => rest_ret _ _ _ _ w (by simp_all <;> omega) (by simp_all <;> omega)) ?_)
  all_goals (conv => whnf)
  all_goals (clear p1; simp_all [val, prefM])
  all_goals (try (intros; omega))
  all_goals simp [rightM]
end Go.Proofs.YtopadpgpmkkpgaaDoor
set_option maxRecDepth 100000
namespace Go.Proofs.YtopadpgpmkkpgaaDoor
open Go.SX
def B8 (x : Int) : List Int := [IntKind.u8.wrap (x / 72057594037927936), IntKind.u8.wrap (x / 281474976710656), IntKind.u8.wrap (x / 1099511627776), IntKind.u8.wrap (x / 4294967296), IntKind.u8.wrap (x / 16777216), IntKind.u8.wrap (x / 65536), IntKind.u8.wrap (x / 256), IntKind.u8.wrap (x / 1)]
theorem bytes4_ret (hi lo : Int) (w : World) : Ret Tryd.prog 42 [.agg #[.bool false, .int .u64 hi, .int .u64 lo]] w (.string (strOfNums ((B8 lo).drop 4))) := by
  refine Ret.of (I := fun _ => True) (fun _ _ => trivial) (TTok 0 _) Tryd.func42 (by kernel_rfl) rfl rfl ?_
  repeat' ((conv => whnf); with_reducible first
    | refine TR.seq ?_ | refine TR.region (TTok 0 _) ?_ | refine Ld.mk' _ rfl ?_ | refine TR.ret ?_ | refine TR.drawn (TTok 0 _) mixed ?_
    | refine TR.cond_true rfl ?_ | refine TR.cond_false rfl ?_ | refine TR.skip ?_ | refine TR.exit ?_ | refine Need.mk' (by kernel_rfl) (fun _ => ?_) | refine TR.block ?_)
  refine TR.le ?_ (Le.promote (i := 3) (c := 3) (e := 5) (esz := 1) rfl rfl)
  refine TR.loopH (fun r : Nat => [(3, .sl 3 r 0 r), (6, .v (.int .i64 (3 - r)))]) (fun r => [(3, ⟨.row, 5, 1, r, byt (((B8 lo).drop 4).take r)⟩)]) (fun r => r ≤ 4) (fun r => 4 - r) 0 (by decide) ?_ ?_
  · repeat' ((conv => whnf); first | exact trivial | exact Fgt.mk rfl rfl rfl | refine And.intro rfl ?_ | refine And.intro ?_ ?_)
  · intro r hr
    have hr' : r = 0 ∨ r = 1 ∨ r = 2 ∨ r = 3 ∨ r = 4 := by omega
    rcases hr' with rfl | rfl | rfl | rfl | rfl
    all_goals repeat' ((conv => whnf); with_reducible first
      | refine TR.seq ?_ | refine TR.region (TTok 0 _) ?_ | refine Ld.mk' _ rfl ?_ | refine TR.ret ?_ | refine TR.drawn (TTok 0 _) mixed ?_
      | refine TR.cond_dec rfl (fun hlt => ?_) (fun hlt => ?_) | refine TR.skip ?_ | refine TR.exit ?_ | refine Need.mk' (by kernel_rfl) (fun _ => ?_) | refine Need.mk' (by decide) (fun _ => ?_)
      | refine Br.mk (fun _ => ?_) (fun _ => ?_) | refine TR.block ?_ | refine Nm.i64 (by omega) ?_ | refine Sh.shrL ?_ | refine Nm.fd (by decide) ?_ | refine x_more (TTok 0 _) ?_ | refine Nm.keep ?_)
    all_goals (conv => whnf)
    all_goals try first
      | (exfalso; omega)
      | rfl
    · refine ⟨1, by decide, by decide, ?_⟩
      repeat' ((conv => whnf); first | exact trivial | exact Fgt.mk rfl rfl rfl | refine And.intro rfl ?_ | refine And.intro ?_ ?_)
    · refine ⟨2, by decide, by decide, ?_⟩
      repeat' ((conv => whnf); first | exact trivial | exact Fgt.mk rfl rfl rfl | refine And.intro rfl ?_ | refine And.intro ?_ ?_)
    · refine ⟨3, by decide, by decide, ?_⟩
      repeat' ((conv => whnf); first | exact trivial | exact Fgt.mk rfl rfl rfl | refine And.intro rfl ?_ | refine And.intro ?_ ?_)
    · refine ⟨4, by decide, by decide, ?_⟩
      repeat' ((conv => whnf); first | exact trivial | exact Fgt.mk rfl rfl rfl | refine And.intro rfl ?_ | refine And.intro ?_ ?_)
theorem bytes16_ret (hi lo : Int) (w : World) : Ret Tryd.prog 42 [.agg #[.bool true, .int .u64 hi, .int .u64 lo]] w (.string (strOfNums (B8 hi ++ B8 lo))) := by
  refine Ret.of (I := fun _ => True) (fun _ _ => trivial) (TTok 0 _) Tryd.func42 (by kernel_rfl) rfl rfl ?_
  repeat' ((conv => whnf); with_reducible first
    | refine TR.seq ?_ | refine TR.region (TTok 0 _) ?_ | refine Ld.mk' _ rfl ?_ | refine TR.ret ?_ | refine TR.drawn (TTok 0 _) mixed ?_
    | refine TR.cond_true rfl ?_ | refine TR.cond_false rfl ?_ | refine TR.skip ?_ | refine TR.exit ?_ | refine Need.mk' (by kernel_rfl) (fun _ => ?_) | refine TR.block ?_)
  refine TR.le ?_ (Le.promote (i := 3) (c := 3) (e := 5) (esz := 1) rfl rfl)
  refine TR.loopH (fun r : Nat => [(3, .sl 3 r 0 r), (4, .v (.int .i64 (7 - r)))]) (fun r => [(3, ⟨.row, 5, 1, r, byt ((B8 hi).take r)⟩)]) (fun r => r ≤ 8) (fun r => 8 - r) 0 (by decide) ?_ ?_
  · repeat' ((conv => whnf); first | exact trivial | exact Fgt.mk rfl rfl rfl | refine And.intro rfl ?_ | refine And.intro ?_ ?_)
  · intro r hr
    have hr' : r = 0 ∨ r = 1 ∨ r = 2 ∨ r = 3 ∨ r = 4 ∨ r = 5 ∨ r = 6 ∨ r = 7 ∨ r = 8 := by omega
    rcases hr' with rfl | rfl | rfl | rfl | rfl | rfl | rfl | rfl | rfl
    all_goals repeat' ((conv => whnf); with_reducible first
      | refine TR.seq ?_ | refine TR.region (TTok 0 _) ?_ | refine Ld.mk' _ rfl ?_ | refine TR.ret ?_ | refine TR.drawn (TTok 0 _) mixed ?_
      | refine TR.cond_dec rfl (fun hlt => ?_) (fun hlt => ?_) | refine TR.skip ?_ | refine TR.exit ?_ | refine Need.mk' (by kernel_rfl) (fun _ => ?_) | refine Need.mk' (by decide) (fun _ => ?_)
      | refine Br.mk (fun _ => ?_) (fun _ => ?_) | refine TR.block ?_ | refine Nm.i64 (by omega) ?_ | refine Sh.shrL ?_ | refine Nm.fd (by decide) ?_ | refine x_more (TTok 0 _) ?_ | refine Nm.keep ?_)
    all_goals (conv => whnf)
    all_goals try first
      | (exfalso; omega)
      | rfl
    · refine ⟨1, by decide, by decide, ?_⟩
      repeat' ((conv => whnf); first | exact trivial | exact Fgt.mk rfl rfl rfl | refine And.intro rfl ?_ | refine And.intro ?_ ?_)
    · refine ⟨2, by decide, by decide, ?_⟩
      repeat' ((conv => whnf); first | exact trivial | exact Fgt.mk rfl rfl rfl | refine And.intro rfl ?_ | refine And.intro ?_ ?_)
    · refine ⟨3, by decide, by decide, ?_⟩
      repeat' ((conv => whnf); first | exact trivial | exact Fgt.mk rfl rfl rfl | refine And.intro rfl ?_ | refine And.intro ?_ ?_)
    · refine ⟨4, by decide, by decide, ?_⟩
      repeat' ((conv => whnf); first | exact trivial | exact Fgt.mk rfl rfl rfl | refine And.intro rfl ?_ | refine And.intro ?_ ?_)
    · refine ⟨5, by decide, by decide, ?_⟩
      repeat' ((conv => whnf); first | exact trivial | exact Fgt.mk rfl rfl rfl | refine And.intro rfl ?_ | refine And.intro ?_ ?_)
    · refine ⟨6, by decide, by decide, ?_⟩
      repeat' ((conv => whnf); first | exact trivial | exact Fgt.mk rfl rfl rfl | refine And.intro rfl ?_ | refine And.intro ?_ ?_)
    · refine ⟨7, by decide, by decide, ?_⟩
      repeat' ((conv => whnf); first | exact trivial | exact Fgt.mk rfl rfl rfl | refine And.intro rfl ?_ | refine And.intro ?_ ?_)
    · refine ⟨8, by decide, by decide, ?_⟩
      repeat' ((conv => whnf); first | exact trivial | exact Fgt.mk rfl rfl rfl | refine And.intro rfl ?_ | refine And.intro ?_ ?_)
    refine TR.loopH (fun r : Nat => [(3, .sl 3 (8 + r) 0 (8 + r)), (5, .v (.int .i64 (7 - r)))]) (fun r => [(3, ⟨.row, 5, 1, 8 + r, byt (B8 hi ++ (B8 lo).take r)⟩)]) (fun r => r ≤ 8) (fun r => 8 - r) 0 (by decide) ?_ ?_
    · repeat' ((conv => whnf); first | exact trivial | exact Fgt.mk rfl rfl rfl | refine And.intro rfl ?_ | refine And.intro ?_ ?_)
    · intro r hr
      have hr' : r = 0 ∨ r = 1 ∨ r = 2 ∨ r = 3 ∨ r = 4 ∨ r = 5 ∨ r = 6 ∨ r = 7 ∨ r = 8 := by omega
      rcases hr' with rfl | rfl | rfl | rfl | rfl | rfl | rfl | rfl | rfl
      all_goals repeat' ((conv => whnf); with_reducible first
        | refine TR.seq ?_ | refine TR.region (TTok 0 _) ?_ | refine Ld.mk' _ rfl ?_ | refine TR.ret ?_ | refine TR.drawn (TTok 0 _) mixed ?_
        | refine TR.cond_dec rfl (fun hlt => ?_) (fun hlt => ?_) | refine TR.skip ?_ | refine TR.exit ?_ | refine Need.mk' (by kernel_rfl) (fun _ => ?_) | refine Need.mk' (by decide) (fun _ => ?_)
        | refine Br.mk (fun _ => ?_) (fun _ => ?_) | refine TR.block ?_ | refine Nm.i64 (by omega) ?_ | refine Sh.shrL ?_ | refine Nm.fd (by decide) ?_ | refine x_more (TTok 0 _) ?_ | refine Nm.keep ?_)
      all_goals (conv => whnf)
      all_goals try first
        | (exfalso; omega)
        | rfl
      · refine ⟨1, by decide, by decide, ?_⟩
        repeat' ((conv => whnf); first | exact trivial | exact Fgt.mk rfl rfl rfl | refine And.intro rfl ?_ | refine And.intro ?_ ?_)
      · refine ⟨2, by decide, by decide, ?_⟩
        repeat' ((conv => whnf); first | exact trivial | exact Fgt.mk rfl rfl rfl | refine And.intro rfl ?_ | refine And.intro ?_ ?_)
      · refine ⟨3, by decide, by decide, ?_⟩
        repeat' ((conv => whnf); first | exact trivial | exact Fgt.mk rfl rfl rfl | refine And.intro rfl ?_ | refine And.intro ?_ ?_)
      · refine ⟨4, by decide, by decide, ?_⟩
        repeat' ((conv => whnf); first | exact trivial | exact Fgt.mk rfl rfl rfl | refine And.intro rfl ?_ | refine And.intro ?_ ?_)
      · refine ⟨5, by decide, by decide, ?_⟩
        repeat' ((conv => whnf); first | exact trivial | exact Fgt.mk rfl rfl rfl | refine And.intro rfl ?_ | refine And.intro ?_ ?_)
      · refine ⟨6, by decide, by decide, ?_⟩
        repeat' ((conv => whnf); first | exact trivial | exact Fgt.mk rfl rfl rfl | refine And.intro rfl ?_ | refine And.intro ?_ ?_)
      · refine ⟨7, by decide, by decide, ?_⟩
        repeat' ((conv => whnf); first | exact trivial | exact Fgt.mk rfl rfl rfl | refine And.intro rfl ?_ | refine And.intro ?_ ?_)
      · refine ⟨8, by decide, by decide, ?_⟩
        repeat' ((conv => whnf); first | exact trivial | exact Fgt.mk rfl rfl rfl | refine And.intro rfl ?_ | refine And.intro ?_ ?_)
end Go.Proofs.YtopadpgpmkkpgaaDoor
set_option maxRecDepth 100000
namespace Go.Proofs.YtopadpgpmkkpgaaDoor
open Go.SX
theorem byte_bit (x : Int) (a b : Nat) (hb : b ≤ 7) : IntKind.u8.wrap (x / 2 ^ a) / 2 ^ b % 2 = x / 2 ^ (a + b) % 2 := by
  have h1 : x / 2 ^ (a + b) = x / 2 ^ a / 2 ^ b := by
    rw [Int.pow_add, Int.ediv_ediv_of_nonneg (Int.le_of_lt (pow_pos' a))]
  rw [h1]
  generalize x / 2 ^ a = y
  have h2 : IntKind.u8.wrap y = y % 256 := by
    simp [IntKind.wrap, IntKind.signed, IntKind.bits]
  rw [h2]
  have : b = 0 ∨ b = 1 ∨ b = 2 ∨ b = 3 ∨ b = 4 ∨ b = 5 ∨ b = 6 ∨ b = 7 := by omega
  rcases this with rfl | rfl | rfl | rfl | rfl | rfl | rfl | rfl <;> simp <;> omega
theorem bAt_nums (l : List Int) (q : Nat) (n : Int) (hq : l[q]? = some n) (hn : 0 ≤ n ∧ n ≤ 255) : bAt (strOfNums l) q = n := by
  unfold bAt
  rw [strOfNums_data]
  simp only [Int.toNat_natCast, List.getD_eq_getElem?_getD, List.getElem?_map, hq, Option.map_some, Option.getD_some]
  simp
  omega
def bitsOf (v6 : Bool) (hi lo : Int) : List Int := if v6 then B8 hi ++ B8 lo else (B8 lo).drop 4
theorem bytes_ret (v6 : Bool) (hi lo : Int) (w : World) : Ret Tryd.prog 42 [.agg #[.bool v6, .int .u64 hi, .int .u64 lo]] w (.string (strOfNums (bitsOf v6 hi lo))) := by
  cases v6
  · exact bytes4_ret hi lo w
  · exact bytes16_ret hi lo w
theorem wrap8 (x : Int) : 0 ≤ IntKind.u8.wrap x ∧ IntKind.u8.wrap x ≤ 255 := by
  have h2 : IntKind.u8.wrap x = x % 256 := by simp [IntKind.wrap, IntKind.signed, IntKind.bits]
  rw [h2]; omega
theorem bitsOf_range (v6 : Bool) (hi lo : Int) (q : Nat) (n : Int) (h : (bitsOf v6 hi lo)[q]? = some n) : 0 ≤ n ∧ n ≤ 255 := by
  have hm := List.mem_of_getElem? h
  unfold bitsOf at hm
  cases v6
  · simp [B8] at hm
    rcases hm with rfl | rfl | rfl | rfl <;> exact wrap8 _
  · simp [B8] at hm
    rcases hm with rfl | rfl | rfl | rfl | rfl | rfl | rfl | rfl | rfl | rfl | rfl | rfl | rfl | rfl | rfl | rfl <;> exact wrap8 _
def wid (v6 : Bool) : Int := if v6 then 128 else 32
theorem refbit_ret (v6 : Bool) (hi lo k : Int) (w : World) (h0 : 0 ≤ k) (h1 : k < wid v6) :
    Ret Tryd.prog 31 [.agg #[.bool v6, .int .u64 hi, .int .u64 lo], .int .i64 k] w (.int .u64 (bAt (strOfNums (bitsOf v6 hi lo)) (k / 8) / 2 ^ (7 - k % 8).toNat % 2)) := by
  have hsz : ((strOfNums (bitsOf v6 hi lo)).size : Int) * 8 = wid v6 := by
    rw [strOfNums_size]; cases v6 <;> simp [bitsOf, B8, wid]
  have hw : wid v6 ≤ 128 := by cases v6 <;> simp [wid]
  have hd : 0 ≤ bAt (strOfNums (bitsOf v6 hi lo)) (k / 8) / 2 ^ (7 - k % 8).toNat := Int.ediv_nonneg (by unfold bAt; omega) (Int.le_of_lt (pow_pos' _))
  refine Ret.of (I := fun _ => True) (fun _ _ => trivial) (TTok 0 _) Tryd.func31 (by kernel_rfl) rfl rfl ?_
  repeat' ((conv => whnf); with_reducible first
    | refine TR.seq ?_ | refine TR.region (TTok 0 _) ?_ | refine Ld.mk' _ rfl ?_ | refine TR.ret ?_ | refine TR.drawn (TTok 0 _) mixed ?_
    | refine x_ret (f := 42) rfl rfl (fun w _ => bytes_ret _ _ _ w) ?_ | refine Need.mk' (by decide) (fun _ => ?_)
    | refine Nm.mk' (k / 8) (by rw [Int.tdiv_eq_ediv_of_nonneg h0]; exact wrap_i64 (by omega)) ?_ | refine Need.mk' (by omega) (fun _ => ?_)
    | refine Nm.mk' (k % 8) (Int.tmod_eq_emod_of_nonneg h0) ?_ | refine Nm.i64 (by omega) ?_ | refine Sh.shr8 (by omega) ?_
    | refine Nm.mk' (bAt (strOfNums (bitsOf v6 hi lo)) (k / 8) / 2 ^ (7 - k % 8).toNat % 2) (Int.tmod_eq_emod_of_nonneg hd) ?_ | refine Nm.u64 (by omega) ?_)
  all_goals (conv => whnf)
  all_goals rfl
/-- The bits of the bytes are the number's. -/
theorem b8_get (x : Int) (j : Nat) (hj : j < 8) : (B8 x)[j]? = some (IntKind.u8.wrap (x / 2 ^ (8 * (7 - j)))) := by
  have : j = 0 ∨ j = 1 ∨ j = 2 ∨ j = 3 ∨ j = 4 ∨ j = 5 ∨ j = 6 ∨ j = 7 := by omega
  rcases this with rfl | rfl | rfl | rfl | rfl | rfl | rfl | rfl <;> rfl
theorem bits_law6 (hi lo k : Int) (h0 : 0 ≤ k) (h1 : k < 128) : bAt (strOfNums (bitsOf true hi lo)) (k / 8) / 2 ^ (7 - k % 8).toNat % 2 = bitM hi lo k := by
  obtain ⟨n, rfl⟩ : ∃ n : Nat, k = n := ⟨k.toNat, by omega⟩
  have e1 : ((n : Int) / 8) = ((n / 8 : Nat) : Int) := by omega
  have e2 : (7 - (n : Int) % 8).toNat = 7 - n % 8 := by omega
  rw [e1, e2]
  unfold bitM
  by_cases hn : n < 64
  · have hg : (bitsOf true hi lo)[n / 8]? = some (IntKind.u8.wrap (hi / 2 ^ (8 * (7 - n / 8)))) := by
      have := b8_get hi (n / 8) (by omega)
      simp only [bitsOf, if_true]
      rw [List.getElem?_append_left (by simp [B8]; omega)]
      exact this
    rw [bAt_nums _ _ _ hg (wrap8 _), byte_bit _ _ _ (by omega), if_pos (by omega)]
    congr 3
    omega
  · have hg : (bitsOf true hi lo)[n / 8]? = some (IntKind.u8.wrap (lo / 2 ^ (8 * (7 - (n / 8 - 8))))) := by
      have := b8_get lo (n / 8 - 8) (by omega)
      simp only [bitsOf, if_true]
      rw [List.getElem?_append_right (by simp [B8]; omega)]
      simpa [B8] using this
    rw [bAt_nums _ _ _ hg (wrap8 _), byte_bit _ _ _ (by omega), if_neg (by omega)]
    congr 3
    omega
end Go.Proofs.YtopadpgpmkkpgaaDoor
set_option maxRecDepth 100000
namespace Go.Proofs.YtopadpgpmkkpgaaDoor
open Go.SX
/-- A number's low bits are 0 just where it is a multiple. -/
theorem low_bits (x : Int) (hx : 0 ≤ x) : ∀ m : Nat, x % 2 ^ m = 0 ↔ ∀ i : Nat, i < m → x / 2 ^ i % 2 = 0
  | 0 => by simp [Int.emod_one]
  | m + 1 => by
    have hp := pow_pos' m
    have ih := low_bits x hx m
    have e : x % 2 ^ (m + 1) = x % 2 ^ m + 2 ^ m * (x / 2 ^ m % 2) := by
      rw [Int.pow_succ]
      have h1 := Int.mul_ediv_add_emod x (2 ^ m)
      have h2 := Int.mul_ediv_add_emod (x / 2 ^ m) 2
      have h3 : x / (2 ^ m * 2) = x / 2 ^ m / 2 := (Int.ediv_ediv_of_nonneg (by omega)).symm
      have h4 := Int.mul_ediv_add_emod x (2 ^ m * 2)
      rw [h3] at h4
      have h5 : 2 ^ m * (x / 2 ^ m) = 2 ^ m * 2 * (x / 2 ^ m / 2) + 2 ^ m * (x / 2 ^ m % 2) := by
        rw [Int.mul_assoc, ← Int.mul_add, h2]
      omega
    have hr : 0 ≤ x % 2 ^ m := Int.emod_nonneg _ (by omega)
    have hb : x / 2 ^ m % 2 = 0 ∨ x / 2 ^ m % 2 = 1 := by omega
    constructor
    · intro h i hi
      rw [e] at h
      rcases hb with h0 | h1
      · rw [h0] at h
        rcases Nat.lt_or_ge i m with h2 | h2
        · exact ih.1 (by simpa using h) i h2
        · have : i = m := by omega
          rw [this]; exact h0
      · rw [h1] at h; omega
    · intro h
      rw [e, h m (by omega), ih.2 (fun i hi => h i (by omega))]
      simp
theorem bits_law4 (hi lo k : Int) (hl : 0 ≤ lo ∧ lo < 4294967296) (h0 : 0 ≤ k) (h1 : k < 32) : bAt (strOfNums (bitsOf false hi lo)) (k / 8) / 2 ^ (7 - k % 8).toNat % 2 = bitM (IntKind.u64.wrap (lo * 4294967296)) 0 k := by
  obtain ⟨n, rfl⟩ : ∃ n : Nat, k = n := ⟨k.toNat, by omega⟩
  have e1 : ((n : Int) / 8) = ((n / 8 : Nat) : Int) := by omega
  have e2 : (7 - (n : Int) % 8).toNat = 7 - n % 8 := by omega
  rw [e1, e2, wrap_u64 (by omega)]
  unfold bitM
  have hg : (bitsOf false hi lo)[n / 8]? = some (IntKind.u8.wrap (lo / 2 ^ (8 * (7 - (n / 8 + 4))))) := by
    have := b8_get lo (n / 8 + 4) (by omega)
    simp only [bitsOf, Bool.false_eq_true, if_false]
    rw [List.getElem?_drop, Nat.add_comm]
    exact this
  rw [bAt_nums _ _ _ hg (wrap8 _), byte_bit _ _ _ (by omega), if_pos (by omega)]
  have e3 : (63 - (n : Int)).toNat = 32 + (31 - n) := by omega
  have e4 : lo * 4294967296 / 2 ^ 32 = lo := by
    have : (2 : Int) ^ 32 = 4294967296 := by decide
    rw [this]; omega
  have e5 : lo * 4294967296 / 2 ^ (32 + (31 - n)) = lo / 2 ^ (31 - n) := by
    rw [Int.pow_add, ← Int.ediv_ediv_of_nonneg (Int.le_of_lt (pow_pos' 32)), e4]
  rw [e3, e5]
  congr 3
  omega
end Go.Proofs.YtopadpgpmkkpgaaDoor
set_option maxRecDepth 100000
namespace Go.Proofs.YtopadpgpmkkpgaaDoor
open Go.SX
def ph (v6 : Bool) (hi lo : Int) : Int := if v6 then hi else IntKind.u64.wrap (lo * 4294967296)
def pl (v6 : Bool) (lo : Int) : Int := if v6 then lo else 0
def eqB (h1 l1 h2 l2 : Int) (n : Int) : Prop := ∀ j, 0 ≤ j → j < n → bitM h1 l1 j = bitM h2 l2 j
theorem path_ret (v6 : Bool) (hi lo : Int) (w : World) : Ret Tryd.prog 21 [.agg #[.bool v6, .int .u64 hi, .int .u64 lo]] w (.agg #[.int .u64 (ph v6 hi lo), .int .u64 (pl v6 lo), .int .i64 (wid v6)]) := by
  have := pathOf_ret v6 hi lo w
  cases v6 <;> simpa [pathM, ph, pl, wid] using this
theorem wrapu (x : Int) : 0 ≤ IntKind.u64.wrap x ∧ IntKind.u64.wrap x ≤ 18446744073709551615 := by
  have h2 : IntKind.u64.wrap x = x % 18446744073709551616 := by simp [IntKind.wrap, IntKind.signed, IntKind.bits]
  rw [h2]; omega
theorem ph_range (v6 : Bool) (hi lo : Int) (hh : 0 ≤ hi ∧ hi ≤ 18446744073709551615) : 0 ≤ ph v6 hi lo ∧ ph v6 hi lo ≤ 18446744073709551615 := by
  cases v6
  · exact wrapu _
  · exact hh
theorem pl_range (v6 : Bool) (lo : Int) (hl : 0 ≤ lo ∧ lo ≤ 18446744073709551615) : 0 ≤ pl v6 lo ∧ pl v6 lo ≤ 18446744073709551615 := by
  cases v6
  · simp [pl]
  · exact hl
theorem holds_ret (v6 : Bool) (hi lo bits : Int) (av6 : Bool) (ahi alo : Int) (w : World) (hh : 0 ≤ hi ∧ hi ≤ 18446744073709551615) (hl : 0 ≤ lo ∧ lo ≤ 18446744073709551615) (ah : 0 ≤ ahi ∧ ahi ≤ 18446744073709551615) (al : 0 ≤ alo ∧ alo ≤ 18446744073709551615)
    (b : Bool) (hbb : b = true ↔ (prefM v6 hi lo bits = true ∧ rightM av6 ahi alo = true ∧ v6 = av6 ∧ eqB (ph v6 hi lo) (pl v6 lo) (ph av6 ahi alo) (pl av6 alo) bits)) :
    Ret Tryd.prog 17 [.agg #[.bool v6, .int .u64 hi, .int .u64 lo, .int .i64 bits], .agg #[.bool av6, .int .u64 ahi, .int .u64 alo]] w (.bool b) := by
  have b1 : prefM v6 hi lo bits = true → 0 ≤ bits ∧ bits ≤ 128 := by
    intro hb
    cases v6 <;> simp [prefM] at hb <;> omega
  have r1 := ph_range v6 hi lo hh
  have r2 := pl_range v6 lo hl
  have r3 := ph_range av6 ahi alo ah
  have r4 := pl_range av6 alo al
  have bfalse : ¬ (prefM v6 hi lo bits = true ∧ rightM av6 ahi alo = true ∧ v6 = av6 ∧ eqB (ph v6 hi lo) (pl v6 lo) (ph av6 ahi alo) (pl av6 alo) bits) → b = false := by
    intro h
    cases b with
    | false => rfl
    | true => exact absurd (hbb.1 rfl) h
  refine Ret.of (I := fun _ => True) (fun _ _ => trivial) (TTok 0 _) Tryd.func17 (by kernel_rfl) rfl rfl ?_
  repeat' ((conv => whnf); with_reducible first
    | refine TR.seq ?_ | refine TR.region (TTok 0 _) ?_ | refine Ld.mk' _ rfl ?_ | refine TR.ret ?_ | refine TR.drawn (TTok 0 _) mixed ?_
    | refine TR.cond_true rfl ?_ | refine TR.cond_false rfl ?_ | refine TR.cond rfl (fun hc => ?_) (fun hc => ?_) | refine TR.skip ?_ | refine Need.mk' (by kernel_rfl) (fun _ => ?_)
    | refine Br.mk (fun _ => ?_) (fun _ => ?_) | refine x_ret (f := 15) rfl rfl (fun w _ => right_ret _ _ _ w) ?_ | refine x_ret (f := 21) rfl rfl (fun w _ => path_ret _ _ _ w) ?_
    | refine x_ret (f := 19) rfl rfl (fun w _ => pref_ret _ _ _ _ w) ?_ | refine TR.block ?_)
  all_goals (conv => whnf)
  all_goals try (exfalso; simp_all; done)
  all_goals try (rw [bfalse (by simp_all [eqR])]; rfl)
  have hp : prefM v6 hi lo bits = true := by simp_all
  have hr : rightM av6 ahi alo = true := by simp_all
  have hv : v6 = av6 := by simp_all [eqR]
  have b2 := b1 hp
  refine TR.loopH (fun k : Int => [(31, .v (.int .i64 k))]) (fun _ => []) (fun k => 0 ≤ k ∧ k ≤ bits ∧ eqB (ph v6 hi lo) (pl v6 lo) (ph av6 ahi alo) (pl av6 alo) k) (fun k => (bits - k).toNat) 0 ⟨by omega, by omega, fun j h0 h1 => by omega⟩ ?_ ?_
  · repeat' ((conv => whnf); first | exact trivial | exact Fgt.mk rfl rfl rfl | refine And.intro rfl ?_ | refine And.intro ?_ ?_)
  · rintro k ⟨k0, k1, k2⟩
    repeat' ((conv => whnf); with_reducible first
      | refine TR.seq ?_ | refine TR.region (TTok 0 _) ?_ | refine Ld.mk' _ rfl ?_ | refine TR.ret ?_ | refine TR.drawn (TTok 0 _) mixed ?_
      | refine TR.cond_true rfl ?_ | refine TR.cond_false rfl ?_ | refine TR.cond_dec (p := k < bits) rfl (fun hlt => ?_) (fun hlt => ?_) | refine TR.cond_ne rfl (fun hne => ?_) (fun heq => ?_) | refine TR.skip ?_ | refine TR.exit ?_ | refine Need.mk' (by kernel_rfl) (fun _ => ?_)
      | refine Br.mk (fun _ => ?_) (fun _ => ?_) | refine x_ret (f := 22) rfl rfl (fun w _ => bit_ret _ _ _ _ w (by omega) (by omega) (by assumption) (by assumption)) ?_
      | refine TR.block ?_ | refine Nm.i64 (by omega) ?_)
    all_goals (conv => whnf)
    · rw [bfalse (fun h => hne (h.2.2.2 k k0 hlt))]
      rfl
    · refine ⟨k + 1, ⟨by omega, by omega, fun j j0 j1 => ?_⟩, by omega, ?_⟩
      · by_cases hj : j = k
        · rw [hj]; exact heq
        · exact k2 j j0 (by omega)
      · repeat' ((conv => whnf); first | exact trivial | exact Fgt.mk rfl rfl rfl | refine And.intro rfl ?_ | refine And.intro ?_ ?_)
    · have hbt : b = true := hbb.2 ⟨hp, hr, hv, by
        have : k = bits := by omega
        rw [← this]
        exact k2⟩
      rw [hbt]
      rfl
end Go.Proofs.YtopadpgpmkkpgaaDoor
set_option maxRecDepth 100000
namespace Go.Proofs.YtopadpgpmkkpgaaDoor
open Go.SX
/-- The bit of an address, as the document has it. -/
def rbit (v6 : Bool) (hi lo k : Int) : Int := bAt (strOfNums (bitsOf v6 hi lo)) (k / 8) / 2 ^ (7 - k % 8).toNat % 2
theorem rbit_range (v6 : Bool) (hi lo k : Int) : 0 ≤ rbit v6 hi lo k ∧ rbit v6 hi lo k ≤ 1 := by unfold rbit; omega
def rpref (v6 : Bool) (hi lo bits : Int) : Prop := rightM v6 hi lo = true ∧ 0 ≤ bits ∧ bits ≤ wid v6 ∧ ∀ k, bits ≤ k → k < wid v6 → rbit v6 hi lo k = 0
theorem width_ret' (v6 : Bool) (hi lo : Int) (w : World) : Ret Tryd.prog 33 [.agg #[.bool v6, .int .u64 hi, .int .u64 lo]] w (.int .i64 (wid v6)) := width_ret v6 hi lo w
theorem rpref_ret (v6 : Bool) (hi lo bits : Int) (w : World) (hl : 0 ≤ lo) (b : Bool) (hbb : b = true ↔ rpref v6 hi lo bits) :
    Ret Tryd.prog 23 [.agg #[.bool v6, .int .u64 hi, .int .u64 lo, .int .i64 bits]] w (.bool b) := by
  have hw : wid v6 ≤ 128 := by cases v6 <;> simp [wid]
  have bfalse : ¬ rpref v6 hi lo bits → b = false := by
    intro h
    cases b with
    | false => rfl
    | true => exact absurd (hbb.1 rfl) h
  refine Ret.of (I := fun _ => True) (fun _ _ => trivial) (TTok 0 _) Tryd.func23 (by kernel_rfl) rfl rfl ?_
  repeat' ((conv => whnf); with_reducible first
    | refine TR.seq ?_ | refine TR.region (TTok 0 _) ?_ | refine Ld.mk' _ rfl ?_ | refine TR.ret ?_ | refine TR.drawn (TTok 0 _) mixed ?_
    | refine TR.cond_true rfl ?_ | refine TR.cond_false rfl ?_ | refine TR.cond rfl (fun hc => ?_) (fun hc => ?_) | refine TR.skip ?_ | refine Need.mk' (by kernel_rfl) (fun _ => ?_)
    | refine Br.mk (fun _ => ?_) (fun _ => ?_) | refine x_ret (f := 30) rfl rfl (fun w _ => refright_ret _ _ _ w hl) ?_ | refine x_ret (f := 33) rfl rfl (fun w _ => width_ret' _ _ _ w) ?_ | refine TR.block ?_)
  all_goals (conv => whnf)
  all_goals try (exfalso; simp_all; done)
  all_goals try (rw [bfalse (fun h => by obtain ⟨a1, a2, a3, _⟩ := h; simp_all <;> omega)]; rfl)
  have hr : rightM v6 hi lo = true := by simp_all
  have hb : 0 ≤ bits ∧ bits ≤ wid v6 := by simp_all
  refine TR.loopH (fun k : Int => [(4, .v (.int .i64 k))]) (fun _ => []) (fun k => bits ≤ k ∧ k ≤ wid v6 ∧ ∀ j, bits ≤ j → j < k → rbit v6 hi lo j = 0) (fun k => (wid v6 - k).toNat) bits ⟨by omega, by omega, fun j h0 h1 => by omega⟩ ?_ ?_
  · repeat' ((conv => whnf); first | exact trivial | exact Fgt.mk rfl rfl rfl | refine And.intro rfl ?_ | refine And.intro ?_ ?_)
  · rintro k ⟨k0, k1, k2⟩
    repeat' ((conv => whnf); with_reducible first
      | refine TR.seq ?_ | refine TR.region (TTok 0 _) ?_ | refine Ld.mk' _ rfl ?_ | refine TR.ret ?_ | refine TR.drawn (TTok 0 _) mixed ?_
      | refine TR.cond_true rfl ?_ | refine TR.cond_false rfl ?_ | refine TR.cond_dec (p := k < wid v6) rfl (fun hlt => ?_) (fun hlt => ?_) | refine TR.cond_ne rfl (fun hne => ?_) (fun heq => ?_) | refine TR.skip ?_ | refine TR.exit ?_ | refine Need.mk' (by kernel_rfl) (fun _ => ?_)
      | refine Br.mk (fun _ => ?_) (fun _ => ?_) | refine x_ret (f := 33) rfl rfl (fun w _ => width_ret' _ _ _ w) ?_ | refine x_ret (f := 31) rfl rfl (fun w _ => refbit_ret _ _ _ _ w (by omega) (by assumption)) ?_
      | refine TR.block ?_ | refine Nm.i64 (by omega) ?_)
    all_goals (conv => whnf)
    · rw [bfalse (fun h => hne (h.2.2.2 k k0 hlt))]
      rfl
    · refine ⟨k + 1, ⟨by omega, by omega, fun j j0 j1 => ?_⟩, by omega, ?_⟩
      · by_cases hj : j = k
        · rw [hj]; exact heq
        · exact k2 j j0 (by omega)
      · repeat' ((conv => whnf); first | exact trivial | exact Fgt.mk rfl rfl rfl | refine And.intro rfl ?_ | refine And.intro ?_ ?_)
    · have hbt : b = true := hbb.2 ⟨hr, hb.1, hb.2, fun j j0 j1 => k2 j j0 (by omega)⟩
      rw [hbt]
      rfl
end Go.Proofs.YtopadpgpmkkpgaaDoor
set_option maxRecDepth 100000
namespace Go.Proofs.YtopadpgpmkkpgaaDoor
open Go.SX
theorem rholds_ret (v6 : Bool) (hi lo bits : Int) (av6 : Bool) (ahi alo : Int) (w : World) (hl : 0 ≤ lo) (al : 0 ≤ alo) (p : Bool) (hpp : p = true ↔ rpref v6 hi lo bits)
    (b : Bool) (hbb : b = true ↔ (p = true ∧ rightM av6 ahi alo = true ∧ v6 = av6 ∧ ∀ k, 0 ≤ k → k < bits → rbit v6 hi lo k = rbit av6 ahi alo k)) :
    Ret Tryd.prog 16 [.agg #[.bool v6, .int .u64 hi, .int .u64 lo, .int .i64 bits], .agg #[.bool av6, .int .u64 ahi, .int .u64 alo]] w (.bool b) := by
  have hw : wid v6 ≤ 128 := by cases v6 <;> simp [wid]
  have bfalse : ¬ (p = true ∧ rightM av6 ahi alo = true ∧ v6 = av6 ∧ ∀ k, 0 ≤ k → k < bits → rbit v6 hi lo k = rbit av6 ahi alo k) → b = false := by
    intro h
    cases b with
    | false => rfl
    | true => exact absurd (hbb.1 rfl) h
  refine Ret.of (I := fun _ => True) (fun _ _ => trivial) (TTok 0 _) Tryd.func16 (by kernel_rfl) rfl rfl ?_
  repeat' ((conv => whnf); with_reducible first
    | refine TR.seq ?_ | refine TR.region (TTok 0 _) ?_ | refine Ld.mk' _ rfl ?_ | refine TR.ret ?_ | refine TR.drawn (TTok 0 _) mixed ?_
    | refine TR.cond_true rfl ?_ | refine TR.cond_false rfl ?_ | refine TR.cond rfl (fun hc => ?_) (fun hc => ?_) | refine TR.skip ?_ | refine Need.mk' (by kernel_rfl) (fun _ => ?_)
    | refine Br.mk (fun _ => ?_) (fun _ => ?_) | refine x_ret (f := 30) rfl rfl (fun w _ => refright_ret _ _ _ w (by assumption)) ?_ | refine x_ret (f := 23) rfl rfl (fun w _ => rpref_ret _ _ _ _ w hl p hpp) ?_ | refine TR.block ?_)
  all_goals (conv => whnf)
  all_goals try (exfalso; simp_all; done)
  all_goals try (rw [bfalse (by simp_all [eqR])]; rfl)
  have hp : p = true := by simp_all
  have hr : rightM av6 ahi alo = true := by simp_all
  have hv : v6 = av6 := by simp_all [eqR]
  obtain ⟨_, b2, b3, _⟩ := hpp.1 hp
  have hw2 : wid av6 = wid v6 := by rw [hv]
  refine TR.loopH (fun k : Int => [(7, .v (.int .i64 k))]) (fun _ => []) (fun k => 0 ≤ k ∧ k ≤ bits ∧ ∀ j, 0 ≤ j → j < k → rbit v6 hi lo j = rbit av6 ahi alo j) (fun k => (bits - k).toNat) 0 ⟨by omega, by omega, fun j h0 h1 => by omega⟩ ?_ ?_
  · repeat' ((conv => whnf); first | exact trivial | exact Fgt.mk rfl rfl rfl | refine And.intro rfl ?_ | refine And.intro ?_ ?_)
  · rintro k ⟨k0, k1, k2⟩
    repeat' ((conv => whnf); with_reducible first
      | refine TR.seq ?_ | refine TR.region (TTok 0 _) ?_ | refine Ld.mk' _ rfl ?_ | refine TR.ret ?_ | refine TR.drawn (TTok 0 _) mixed ?_
      | refine TR.cond_true rfl ?_ | refine TR.cond_false rfl ?_ | refine TR.cond_dec (p := k < bits) rfl (fun hlt => ?_) (fun hlt => ?_) | refine TR.cond_ne rfl (fun hne => ?_) (fun heq => ?_) | refine TR.skip ?_ | refine TR.exit ?_ | refine Need.mk' (by kernel_rfl) (fun _ => ?_)
      | refine Br.mk (fun _ => ?_) (fun _ => ?_) | refine x_ret (f := 31) rfl rfl (fun w _ => refbit_ret _ _ _ _ w (by omega) (by omega)) ?_
      | refine TR.block ?_ | refine Nm.i64 (by omega) ?_)
    all_goals (conv => whnf)
    · rw [bfalse (fun h => hne (h.2.2.2 k k0 hlt))]
      rfl
    · refine ⟨k + 1, ⟨by omega, by omega, fun j j0 j1 => ?_⟩, by omega, ?_⟩
      · by_cases hj : j = k
        · rw [hj]; exact heq
        · exact k2 j j0 (by omega)
      · repeat' ((conv => whnf); first | exact trivial | exact Fgt.mk rfl rfl rfl | refine And.intro rfl ?_ | refine And.intro ?_ ?_)
    · have hbt : b = true := hbb.2 ⟨hp, hr, hv, fun j j0 j1 => k2 j j0 (by omega)⟩
      rw [hbt]
      rfl
end Go.Proofs.YtopadpgpmkkpgaaDoor
set_option maxRecDepth 100000
namespace Go.Proofs.YtopadpgpmkkpgaaDoor
open Go.SX
theorem shl_zero (x : Int) (k : Nat) (hk : k ≤ 64) : IntKind.u64.wrap (x * 2 ^ k) = 0 ↔ x % 2 ^ (64 - k) = 0 := by
  have h2 : IntKind.u64.wrap (x * 2 ^ k) = (x * 2 ^ k) % 2 ^ 64 := by simp [IntKind.wrap, IntKind.signed, IntKind.bits]
  have e : (2 : Int) ^ 64 = 2 ^ (64 - k) * 2 ^ k := by rw [← Int.pow_add]; congr 1; omega
  have hp := pow_pos' k
  rw [h2, e, ← Int.dvd_iff_emod_eq_zero, ← Int.dvd_iff_emod_eq_zero]
  exact Int.mul_dvd_mul_iff_right (by omega)
end Go.Proofs.YtopadpgpmkkpgaaDoor
namespace Go.Proofs.YtopadpgpmkkpgaaDoor
open Go.SX
theorem low_all (x : Int) (hx : 0 ≤ x) (k : Nat) (hk : k ≤ 64) : IntKind.u64.wrap (x * 2 ^ k) = 0 ↔ ∀ j : Nat, k ≤ j → j < 64 → x / 2 ^ (63 - j) % 2 = 0 := by
  rw [shl_zero x k hk, low_bits x hx]
  constructor
  · intro h j h1 h2
    exact h (63 - j) (by omega)
  · intro h i hi
    have := h (63 - i) (by omega) (by omega)
    rwa [show 63 - (63 - i) = i by omega] at this
theorem pref_law6 (hi lo bits : Int) (hh : 0 ≤ hi ∧ hi ≤ 18446744073709551615) (hl : 0 ≤ lo ∧ lo ≤ 18446744073709551615) : prefM true hi lo bits = true ↔ rpref true hi lo bits := by
  have key : 0 ≤ bits → bits ≤ 128 → ((restHi hi bits = 0 ∧ restLo lo bits = 0) ↔ ∀ k, bits ≤ k → k < 128 → rbit true hi lo k = 0) := by
    intro b0 b1
    have hb : ∀ k, 0 ≤ k → k < 128 → rbit true hi lo k = bitM hi lo k := fun k h0 h1 => bits_law6 hi lo k h0 h1
    by_cases h64 : 64 ≤ bits
    · rw [restHi, restLo, if_pos h64, if_pos h64, low_all lo hl.1 _ (by omega)]
      constructor
      · rintro ⟨_, h⟩ k k0 k1
        rw [hb k (by omega) k1, bitM, if_neg (by omega)]
        have := h (k - 64).toNat (by omega) (by omega)
        rwa [show 63 - (k - 64).toNat = (127 - k).toNat by omega] at this
      · intro h
        refine ⟨rfl, fun j j0 j1 => ?_⟩
        have := h (j + 64) (by omega) (by omega)
        rw [hb _ (by omega) (by omega), bitM, if_neg (by omega)] at this
        rwa [show (127 - ((j : Int) + 64)).toNat = 63 - j by omega] at this
    · rw [restHi, restLo, if_neg h64, if_neg h64, low_all hi hh.1 _ (by omega)]
      have hlo : lo = 0 ↔ ∀ j : Nat, j < 64 → lo / 2 ^ j % 2 = 0 := by
        rw [← low_bits lo hl.1 64]
        omega
      rw [hlo]
      constructor
      · rintro ⟨h, h'⟩ k k0 k1
        rw [hb k (by omega) k1, bitM]
        split
        · have := h k.toNat (by omega) (by omega)
          rwa [show 63 - k.toNat = (63 - k).toNat by omega] at this
        · exact h' _ (by omega)
      · intro h
        refine ⟨fun j j0 j1 => ?_, fun j j1 => ?_⟩
        · have := h j (by omega) (by omega)
          rw [hb _ (by omega) (by omega), bitM, if_pos (by omega)] at this
          rwa [show (63 - (j : Int)).toNat = 63 - j by omega] at this
        · have := h (127 - j) (by omega) (by omega)
          rw [hb _ (by omega) (by omega), bitM, if_neg (by omega)] at this
          rwa [show (127 - (127 - (j : Int))).toNat = j by omega] at this
  unfold rpref
  simp only [prefM, wid, if_true]
  constructor
  · intro h
    simp at h
    obtain ⟨⟨⟨h1, h2⟩, h3⟩, h4⟩ := h
    exact ⟨h1, by omega, by omega, (key (by omega) (by omega)).1 h4⟩
  · rintro ⟨h1, h2, h3, h4⟩
    have := (key h2 h3).2 h4
    simp [h1, this]
    omega
end Go.Proofs.YtopadpgpmkkpgaaDoor
set_option maxRecDepth 100000
namespace Go.Proofs.YtopadpgpmkkpgaaDoor
open Go.SX
theorem pref_law4 (hi lo bits : Int) (hl : 0 ≤ lo ∧ lo ≤ 18446744073709551615) : prefM false hi lo bits = true ↔ rpref false hi lo bits := by
  have key : 0 ≤ lo ∧ lo < 4294967296 → 0 ≤ bits → bits ≤ 32 → (restHi (IntKind.u64.wrap (lo * 4294967296)) bits = 0 ↔ ∀ k, bits ≤ k → k < 32 → rbit false hi lo k = 0) := by
    intro hlo b0 b1
    have hb : ∀ k, 0 ≤ k → k < 32 → rbit false hi lo k = bitM (IntKind.u64.wrap (lo * 4294967296)) 0 k := fun k h0 h1 => bits_law4 hi lo k hlo h0 h1
    have hw : IntKind.u64.wrap (lo * 4294967296) = lo * 4294967296 := wrap_u64 (by omega)
    rw [restHi, if_neg (by omega), low_all _ (wrapu _).1 _ (by omega)]
    constructor
    · intro h k k0 k1
      rw [hb k (by omega) k1, bitM, if_pos (by omega)]
      have := h k.toNat (by omega) (by omega)
      rwa [show 63 - k.toNat = (63 - k).toNat by omega] at this
    · intro h j j0 j1
      by_cases hj : j < 32
      · have := h j (by omega) (by omega)
        rw [hb _ (by omega) (by omega), bitM, if_pos (by omega)] at this
        rwa [show (63 - (j : Int)).toNat = 63 - j by omega] at this
      · rw [hw]
        have e : lo * 4294967296 / 2 ^ (63 - j) = lo * 2 ^ (32 - (63 - j)) := by
          have : (4294967296 : Int) = 2 ^ (32 - (63 - j)) * 2 ^ (63 - j) := by
            rw [← Int.pow_add, show 32 - (63 - j) + (63 - j) = 32 by omega]; decide
          rw [this, ← Int.mul_assoc, Int.mul_ediv_cancel _ (by have := pow_pos' (63 - j); omega)]
        rw [e, show 32 - (63 - j) = (32 - (63 - j) - 1) + 1 by omega, Int.pow_succ, ← Int.mul_assoc]
        omega
  unfold rpref
  simp only [prefM, wid, Bool.false_eq_true, if_false]
  have hr : rightM false hi lo = true → lo < 4294967296 := by
    intro h; simp [rightM] at h; omega
  have hz : restLo 0 bits = 0 := by
    unfold restLo; split
    · simp [IntKind.wrap, IntKind.signed, IntKind.bits]
    · rfl
  constructor
  · intro h
    simp [hz] at h
    obtain ⟨⟨⟨h1, h2⟩, h3⟩, h4⟩ := h
    exact ⟨h1, by omega, by omega, (key ⟨hl.1, hr h1⟩ (by omega) (by omega)).1 h4⟩
  · rintro ⟨h1, h2, h3, h4⟩
    have := (key ⟨hl.1, hr h1⟩ h2 h3).2 h4
    simp [h1, this, hz]
    omega
end Go.Proofs.YtopadpgpmkkpgaaDoor
set_option maxRecDepth 100000
namespace Go.Proofs.YtopadpgpmkkpgaaDoor
open Go.SX
theorem right_lo {hi lo : Int} (h0 : 0 ≤ lo) (h : rightM false hi lo = true) : 0 ≤ lo ∧ lo < 4294967296 := by
  simp [rightM] at h; omega
theorem rbit_eq (v6 : Bool) (hi lo k : Int) (hl : 0 ≤ lo) (hr : rightM v6 hi lo = true) (h0 : 0 ≤ k) (h1 : k < wid v6) : rbit v6 hi lo k = bitM (ph v6 hi lo) (pl v6 lo) k := by
  cases v6
  · exact bits_law4 hi lo k (right_lo hl hr) h0 (by simpa [wid] using h1)
  · exact bits_law6 hi lo k h0 (by simpa [wid] using h1)
/-- Both tell the same. -/
theorem both_hold (v6 : Bool) (hi lo bits : Int) (av6 : Bool) (ahi alo : Int) (hh : 0 ≤ hi ∧ hi ≤ 18446744073709551615) (hl : 0 ≤ lo ∧ lo ≤ 18446744073709551615) (ah : 0 ≤ ahi ∧ ahi ≤ 18446744073709551615) (al : 0 ≤ alo ∧ alo ≤ 18446744073709551615) :
    ∃ b : Bool, ∀ w, Ret Tryd.prog 17 [.agg #[.bool v6, .int .u64 hi, .int .u64 lo, .int .i64 bits], .agg #[.bool av6, .int .u64 ahi, .int .u64 alo]] w (.bool b) ∧
      Ret Tryd.prog 16 [.agg #[.bool v6, .int .u64 hi, .int .u64 lo, .int .i64 bits], .agg #[.bool av6, .int .u64 ahi, .int .u64 alo]] w (.bool b) := by
  have hlaw : prefM v6 hi lo bits = true ↔ rpref v6 hi lo bits := by
    cases v6
    · exact pref_law4 hi lo bits hl
    · exact pref_law6 hi lo bits hh hl
  obtain ⟨b, hb⟩ : ∃ b : Bool, b = true ↔ (prefM v6 hi lo bits = true ∧ rightM av6 ahi alo = true ∧ v6 = av6 ∧ eqB (ph v6 hi lo) (pl v6 lo) (ph av6 ahi alo) (pl av6 alo) bits) :=
    by
      by_cases h : (prefM v6 hi lo bits = true ∧ rightM av6 ahi alo = true ∧ v6 = av6 ∧ eqB (ph v6 hi lo) (pl v6 lo) (ph av6 ahi alo) (pl av6 alo) bits)
      · exact ⟨true, ⟨fun _ => h, fun _ => rfl⟩⟩
      · exact ⟨false, ⟨fun hf => (by cases hf), fun h' => absurd h' h⟩⟩
  refine ⟨b, fun w => ⟨holds_ret v6 hi lo bits av6 ahi alo w hh hl ah al b hb, rholds_ret v6 hi lo bits av6 ahi alo w hl.1 al.1 (prefM v6 hi lo bits) hlaw b ?_⟩⟩
  rw [hb]
  refine and_congr_right fun h1 => and_congr_right fun h2 => and_congr_right fun h3 => ?_
  obtain ⟨r1, r2, r3, _⟩ := hlaw.1 h1
  unfold eqB
  refine forall_congr' fun k => forall_congr' fun k0 => forall_congr' fun k1 => ?_
  rw [rbit_eq v6 hi lo k hl.1 r1 k0 (by omega), rbit_eq av6 ahi alo k al.1 h2 k0 (by rw [← h3]; omega)]
end Go.Proofs.YtopadpgpmkkpgaaDoor
set_option maxRecDepth 100000
namespace Go.Proofs.YtopadpgpmkkpgaaDoor
open Go.SX
/-! ### The tree of bits -/
/-- Where a place of the tree lies: its block, its offset; its rule: a block, and what stands there. -/
abbrev Pl := Nat × Nat × Option (Nat × List Value)
abbrev Tr := Nat → List Int → Option Pl
def ptrOf : Option Pl → Value
  | none => .pointer none
  | some (b, o, _) => .pointer (some ⟨b, o, none⟩)
def rptr : Option (Nat × List Value) → Value
  | none => .pointer none
  | some (b, _) => .pointer (some ⟨b, 0, none⟩)
structure Wf (b0 : Nat) (T : Tr) : Prop where
  r0 : ∃ r, T 0 [] = some (b0, 0, r)
  r1 : ∃ r, T 1 [] = some (b0, 3, r)
  closed : ∀ k p b, T k (p ++ [b]) ≠ none → T k p ≠ none
  inj : ∀ k p k' p' b o r r', T k p = some (b, o, r) → T k' p' = some (b, o, r') → k = k' ∧ p = p'
  off : ∀ k p b o r, T k p = some (b, o, r) → o = 0 ∨ o = 3
  sep : ∀ k p b o r k' p' b' o' rb us, T k p = some (b, o, r) → T k' p' = some (b', o', some (rb, us)) → b ≠ rb
  sepr : ∀ k p b o rb us k' p' b' o' us', T k p = some (b, o, some (rb, us)) → T k' p' = some (b', o', some (rb, us')) → us = us'
/-- The memory holds the tree. -/
def GT (b0 : Nat) (T : Tr) (bl : Nat) (D : Nat → Prop) (w : World) : Prop :=
  Wf b0 T ∧ bl = b0 ∧ ∀ k p b o r, T k p = some (b, o, r) → D b ∧ w.cell? ⟨b, o, none⟩ = some (ptrOf (T k (p ++ [0]))) ∧ w.cell? ⟨b, o + 1, none⟩ = some (ptrOf (T k (p ++ [1]))) ∧ w.cell? ⟨b, o + 2, none⟩ = some (rptr r) ∧
    (∀ i, i < 3 → w.frozen? ⟨b, o + i, none⟩ = false) ∧ ∀ rb us, r = some (rb, us) → D rb ∧ ∀ i u, us[i]? = some u → w.cell? ⟨rb, i, none⟩ = some u
theorem cell_same {w w' : World} {b o : Nat} (h : w'.heap[b]? = w.heap[b]?) : w'.cell? ⟨b, o, none⟩ = w.cell? ⟨b, o, none⟩ := by simp only [World.cell?]; rw [h]
theorem frozen_same {w w' : World} {b o : Nat} (h : w'.heap[b]? = w.heap[b]?) : w'.frozen? ⟨b, o, none⟩ = w.frozen? ⟨b, o, none⟩ := by simp only [World.frozen?]; rw [h]
theorem GT_stab (b0 : Nat) (T : Tr) : StabT (GT b0 T) := by
  rintro bl D w w' hw ⟨h1, h2, h3⟩
  refine ⟨h1, h2, fun k p b o r hT => ?_⟩
  obtain ⟨g1, g2, g3, g4, g5, g6⟩ := h3 k p b o r hT
  have hb := hw b g1
  refine ⟨g1, by rw [cell_same hb]; exact g2, by rw [cell_same hb]; exact g3, by rw [cell_same hb]; exact g4, fun i hi => by rw [frozen_same hb]; exact g5 i hi, fun rb us hr => ?_⟩
  obtain ⟨q1, q2⟩ := g6 rb us hr
  exact ⟨q1, fun i u hu => by rw [cell_same (hw rb q1)]; exact q2 i u hu⟩
/-- The first tree: two places. -/
def T0 (b0 : Nat) : Tr := fun k p => match k, p with
  | 0, [] => some (b0, 0, none)
  | 1, [] => some (b0, 3, none)
  | _, _ => none
theorem T0_some {b0 k : Nat} {p : List Int} {x : Pl} (h : T0 b0 k p = some x) : p = [] ∧ ((k = 0 ∧ x = (b0, 0, none)) ∨ (k = 1 ∧ x = (b0, 3, none))) := by
  unfold T0 at h
  split at h
  · cases h; exact ⟨rfl, .inl ⟨rfl, rfl⟩⟩
  · cases h; exact ⟨rfl, .inr ⟨rfl, rfl⟩⟩
  · cases h
theorem T0_wf (b0 : Nat) : Wf b0 (T0 b0) where
  r0 := ⟨none, rfl⟩
  r1 := ⟨none, rfl⟩
  closed k p b h := by
    cases hx : T0 b0 k (p ++ [b]) with
    | none => exact (h hx).elim
    | some x =>
      have := (T0_some hx).1
      simp at this
  inj k p k' p' b o r r' h1 h2 := by
    obtain ⟨e1, g1⟩ := T0_some h1
    obtain ⟨e2, g2⟩ := T0_some h2
    subst e1 e2
    rcases g1 with ⟨rfl, g1⟩ | ⟨rfl, g1⟩ <;> rcases g2 with ⟨rfl, g2⟩ | ⟨rfl, g2⟩ <;> simp_all
  off k p b o r h := by
    obtain ⟨_, g | g⟩ := T0_some h <;> simp_all
  sep k p b o r k' p' b' o' rb us h1 h2 := by
    obtain ⟨_, g | g⟩ := T0_some h2 <;> simp_all
  sepr k p b o rb us k' p' b' o' us' h1 h2 := by
    obtain ⟨_, g | g⟩ := T0_some h1 <;> simp_all
theorem T0_child (b0 k : Nat) (p : List Int) (b : Int) : T0 b0 k (p ++ [b]) = none := by
  cases hx : T0 b0 k (p ++ [b]) with
  | none => rfl
  | some x =>
    have := (T0_some hx).1
    simp at this
theorem T0_GT (b0 : Nat) : ∀ bl D w, F0 b0 [.pointer none, .pointer none, .pointer none, .pointer none, .pointer none, .pointer none] bl D w → GT b0 (T0 b0) bl D w := by
  rintro bl D w ⟨h1, h2, h3, h4⟩
  refine ⟨T0_wf b0, h1, fun k p b o r hT => ?_⟩
  obtain ⟨rfl, g⟩ := T0_some hT
  rw [T0_child, T0_child]
  rcases g with ⟨rfl, g⟩ | ⟨rfl, g⟩
  · cases g
    refine ⟨(h2 _).2 rfl, h3 0 _ rfl, h3 1 _ rfl, h3 2 _ rfl, fun i hi => ?_, fun rb us hr => by cases hr⟩
    have := h4 (0 + i) (by simp; omega)
    exact this
  · cases g
    refine ⟨(h2 _).2 rfl, h3 3 _ rfl, h3 4 _ rfl, h3 5 _ rfl, fun i hi => h4 (3 + i) (by simp; omega), fun rb us hr => by cases hr⟩
/-- A place more. -/
def addT (T : Tr) (k : Nat) (p : List Int) (nb : Nat) : Tr := fun k' p' => if k' = k ∧ p' = p then some (nb, 0, none) else T k' p'
def setT (T : Tr) (k : Nat) (p : List Int) (rb : Nat) (us : List Value) : Tr := fun k' p' => if k' = k ∧ p' = p then (T k p).map fun x => (x.1, x.2.1, some (rb, us)) else T k' p'
theorem set_other {w : World} {b o b' o' : Nat} {u : Value} (h : ¬ (b' = b ∧ o' = o)) : (w.setCell ⟨b, o, none⟩ u).cell? ⟨b', o', none⟩ = w.cell? ⟨b', o', none⟩ :=
  World.cell?_setCell_other _ _ _ _ (fun e => h (by cases e; exact ⟨rfl, rfl⟩))
theorem app_inj {p q : List Int} {a b : Int} (h : p ++ [a] = q ++ [b]) : p = q ∧ a = b := by
  have := List.append_inj' h rfl
  exact ⟨this.1, by simpa using this.2⟩
theorem add_old {T : Tr} {k k' : Nat} {p p' : List Int} {nb : Nat} (h : ¬ (k' = k ∧ p' = p)) : addT T k p nb k' p' = T k' p' := if_neg h
theorem add_new (T : Tr) (k : Nat) (p : List Int) (nb : Nat) : addT T k p nb k p = some (nb, 0, none) := if_pos ⟨rfl, rfl⟩
theorem add_cases {T : Tr} {k : Nat} {p : List Int} {nb : Nat} {k' : Nat} {p' : List Int} {x : Pl} (h : addT T k p nb k' p' = some x) : (k' = k ∧ p' = p ∧ x = (nb, 0, none)) ∨ (¬ (k' = k ∧ p' = p) ∧ T k' p' = some x) := by
  by_cases hc : k' = k ∧ p' = p
  · obtain ⟨rfl, rfl⟩ := hc
    rw [add_new] at h
    cases h
    exact .inl ⟨rfl, rfl, rfl⟩
  · rw [add_old hc] at h
    exact .inr ⟨hc, h⟩
theorem add_wf {b0 : Nat} {T : Tr} (hW : Wf b0 T) {k : Nat} {p : List Int} {β : Int} {x : Pl} (hp : T k p = some x) {nb : Nat} (hfb : ∀ k p b o r, T k p = some (b, o, r) → b ≠ nb ∧ ∀ rb us, r = some (rb, us) → rb ≠ nb) : Wf b0 (addT T k (p ++ [β]) nb) where
  r0 := by
    rw [add_old (by simp)]
    exact hW.r0
  r1 := by
    rw [add_old (by simp)]
    exact hW.r1
  closed k' q b h := by
    by_cases hc : k' = k ∧ q ++ [b] = p ++ [β]
    · obtain ⟨rfl, h2⟩ := hc
      obtain ⟨rfl, _⟩ := app_inj h2
      rw [add_old (by simp), hp]
      simp
    · rw [add_old hc] at h
      have := hW.closed k' q b h
      by_cases hc2 : k' = k ∧ q = p ++ [β]
      · rw [hc2.1, hc2.2, add_new]; simp
      · rw [add_old hc2]; exact this
  inj k1 p1 k2 p2 b o r r' h1 h2 := by
    rcases add_cases h1 with ⟨rfl, rfl, e1⟩ | ⟨_, e1⟩ <;> rcases add_cases h2 with ⟨rfl, rfl, e2⟩ | ⟨_, e2⟩
    · exact ⟨rfl, rfl⟩
    · cases e1
      exact absurd rfl (hfb _ _ _ _ _ e2).1
    · cases e2
      exact absurd rfl (hfb _ _ _ _ _ e1).1
    · exact hW.inj _ _ _ _ _ _ _ _ e1 e2
  off k1 p1 b o r h := by
    rcases add_cases h with ⟨_, _, e⟩ | ⟨_, e⟩
    · cases e; exact .inl rfl
    · exact hW.off _ _ _ _ _ e
  sep k1 p1 b o r k2 p2 b2 o2 rb us h1 h2 := by
    rcases add_cases h2 with ⟨_, _, e2⟩ | ⟨_, e2⟩
    · cases e2
    · rcases add_cases h1 with ⟨_, _, e1⟩ | ⟨_, e1⟩
      · cases e1
        exact fun e => (hfb _ _ _ _ _ e2).2 _ _ rfl e.symm
      · exact hW.sep _ _ _ _ _ _ _ _ _ _ _ e1 e2
  sepr k1 p1 b o rb us k2 p2 b2 o2 us2 h1 h2 := by
    rcases add_cases h1 with ⟨_, _, e1⟩ | ⟨_, e1⟩
    · cases e1
    · rcases add_cases h2 with ⟨_, _, e2⟩ | ⟨_, e2⟩
      · cases e2
      · exact hW.sepr _ _ _ _ _ _ _ _ _ _ _ e1 e2
theorem GT_fresh {b0 : Nat} {T : Tr} {bl : Nat} {D : Nat → Prop} {w : World} (hG : GT b0 T bl D w) {nb : Nat} (hn : ¬ D nb) : ∀ k p b o r, T k p = some (b, o, r) → b ≠ nb ∧ ∀ rb us, r = some (rb, us) → rb ≠ nb := by
  intro k p b o r h
  obtain ⟨g1, _, _, _, _, g6⟩ := hG.2.2 k p b o r h
  exact ⟨fun e => hn (e ▸ g1), fun rb us hr e => hn (e ▸ (g6 rb us hr).1)⟩
def nilP : Value := .pointer none
theorem add_GT {b0 : Nat} {T : Tr} {k : Nat} {p : List Int} {β : Int} {pb po : Nat} {pr : Option (Nat × List Value)} (hp : T k p = some (pb, po, pr)) (hβ : β = 0 ∨ β = 1) (hn : T k (p ++ [β]) = none) :
    ∀ bl D w nb, GT b0 T bl D w → ¬ D nb → (∀ i u, [Value.pointer none, .pointer none, .pointer none][i]? = some u → w.cell? ⟨nb, i, none⟩ = some u) → (∀ i, i < [Value.pointer none, .pointer none, .pointer none].length → w.frozen? ⟨nb, i, none⟩ = false) →
      D pb ∧ (∃ v, w.cell? ⟨pb, po + β.toNat, none⟩ = some v) ∧ w.frozen? ⟨pb, po + β.toNat, none⟩ = false ∧ ∃ x, GT b0 (addT T k (p ++ [β]) x) bl (fun e => D e ∨ e = nb) (w.setCell ⟨pb, po + β.toNat, none⟩ (.pointer (some ⟨nb, 0, none⟩))) := by
  intro bl D w nb hG hD hc hf
  have hG' := hG
  obtain ⟨hW, hbl, h⟩ := hG
  have hfb := GT_fresh hG' hD
  obtain ⟨g1, g2, g3, g4, g5, g6⟩ := h k p pb po pr hp
  have hpo := hW.off _ _ _ _ _ hp
  have hpn := (hfb _ _ _ _ _ hp).1
  refine ⟨g1, ?_, ?_, nb, add_wf hW hp hfb, hbl, ?_⟩
  · rcases hβ with rfl | rfl
    · exact ⟨_, g2⟩
    · exact ⟨_, g3⟩
  · rcases hβ with rfl | rfl
    · exact g5 0 (by omega)
    · exact g5 1 (by omega)
  · intro k' q b o r hT
    rcases add_cases hT with ⟨rfl, rfl, e⟩ | ⟨hne, e⟩
    · cases e
      have hnone : ∀ c : Int, addT T k' (p ++ [β]) nb k' ((p ++ [β]) ++ [c]) = none := fun c => by
        rw [add_old (by simp)]
        cases hx : T k' (p ++ [β] ++ [c]) with
        | none => rfl
        | some x => exact absurd hn (hW.closed _ _ c (by rw [hx]; simp))
      rw [hnone, hnone]
      refine ⟨.inr rfl, ?_, ?_, ?_, fun i hi => ?_, fun rb us hr => by cases hr⟩
      · rw [set_other (fun e => hpn e.1.symm)]; exact hc 0 _ rfl
      · rw [set_other (fun e => hpn e.1.symm)]; exact hc 1 _ rfl
      · rw [set_other (fun e => hpn e.1.symm)]; exact hc 2 _ rfl
      · rw [World.frozen?_setCell, Nat.zero_add]; exact hf i hi
    · obtain ⟨q1, q2, q3, q4, q5, q6⟩ := h k' q b o r e
      have ho := hW.off _ _ _ _ _ e
      -- a child of this place: the new one only where it is the place itself
      have child : ∀ c : Int, (c = 0 ∨ c = 1) → w.cell? ⟨b, o + c.toNat, none⟩ = some (ptrOf (T k' (q ++ [c]))) → (w.setCell ⟨pb, po + β.toNat, none⟩ (.pointer (some ⟨nb, 0, none⟩))).cell? ⟨b, o + c.toNat, none⟩ = some (ptrOf (addT T k (p ++ [β]) nb k' (q ++ [c]))) := by
        intro c hc01 hold
        by_cases hs : b = pb ∧ o + c.toNat = po + β.toNat
        · have hoo : o = po ∧ c = β := by rcases hc01 with rfl | rfl <;> rcases hβ with rfl | rfl <;> rcases ho with rfl | rfl <;> rcases hpo with rfl | rfl <;> simp_all
          obtain ⟨rfl, rfl⟩ := hoo
          obtain ⟨rfl, _⟩ := hs
          obtain ⟨rfl, rfl⟩ := hW.inj _ _ _ _ _ _ _ _ e hp
          rw [add_new, World.cell?_setCell_same _ _ _ hold]
          rfl
        · rw [set_other hs, hold, add_old]
          rintro ⟨rfl, h2⟩
          obtain ⟨rfl, rfl⟩ := app_inj h2
          rw [hp] at e
          cases e
          exact hs ⟨rfl, rfl⟩
      refine ⟨.inl q1, child 0 (.inl rfl) q2, child 1 (.inr rfl) q3, ?_, fun i hi => by rw [World.frozen?_setCell]; exact q5 i hi, fun rb us hr => ?_⟩
      · rw [set_other, q4]
        rintro ⟨_, h2⟩
        rcases hβ with rfl | rfl <;> rcases ho with rfl | rfl <;> rcases hpo with rfl | rfl <;> simp at h2
      · obtain ⟨z1, z2⟩ := q6 rb us hr
        refine ⟨.inl z1, fun i u hu => ?_⟩
        rw [set_other, z2 i u hu]
        rintro ⟨h1, _⟩
        subst hr
        exact hW.sep _ _ _ _ _ _ _ _ _ _ _ hp e h1.symm
theorem set_cases {T : Tr} {k : Nat} {p : List Int} {nb : Nat} {vs : List Value} {pb po : Nat} {pr : Option (Nat × List Value)} (hp : T k p = some (pb, po, pr)) {k' : Nat} {p' : List Int} {x : Pl} (h : setT T k p nb vs k' p' = some x) :
    (k' = k ∧ p' = p ∧ x = (pb, po, some (nb, vs))) ∨ (¬ (k' = k ∧ p' = p) ∧ T k' p' = some x) := by
  by_cases hc : k' = k ∧ p' = p
  · obtain ⟨rfl, rfl⟩ := hc
    rw [setT, if_pos ⟨rfl, rfl⟩, hp] at h
    cases h
    exact .inl ⟨rfl, rfl, rfl⟩
  · rw [setT, if_neg hc] at h
    exact .inr ⟨hc, h⟩
theorem set_old {T : Tr} {k k' : Nat} {p p' : List Int} {nb : Nat} {vs : List Value} (h : ¬ (k' = k ∧ p' = p)) : setT T k p nb vs k' p' = T k' p' := if_neg h
theorem set_new {T : Tr} {k : Nat} {p : List Int} {nb : Nat} {vs : List Value} {pb po : Nat} {pr : Option (Nat × List Value)} (hp : T k p = some (pb, po, pr)) : setT T k p nb vs k p = some (pb, po, some (nb, vs)) := by
  rw [setT, if_pos ⟨rfl, rfl⟩, hp]; rfl
theorem set_none {T : Tr} {k : Nat} {p : List Int} {nb : Nat} {vs : List Value} {pb po : Nat} {pr : Option (Nat × List Value)} (hp : T k p = some (pb, po, pr)) (k' : Nat) (p' : List Int) : (setT T k p nb vs k' p' = none ↔ T k' p' = none) ∧ ptrOf (setT T k p nb vs k' p') = ptrOf (T k' p') := by
  by_cases hc : k' = k ∧ p' = p
  · obtain ⟨rfl, rfl⟩ := hc
    rw [set_new hp, hp]
    exact ⟨by simp, rfl⟩
  · rw [set_old hc]
    exact ⟨Iff.rfl, rfl⟩
theorem set_wf {b0 : Nat} {T : Tr} (hW : Wf b0 T) {k : Nat} {p : List Int} {pb po : Nat} (hp : T k p = some (pb, po, none)) {nb : Nat} {vs : List Value} (hfb : ∀ k p b o r, T k p = some (b, o, r) → b ≠ nb ∧ ∀ rb us, r = some (rb, us) → rb ≠ nb) : Wf b0 (setT T k p nb vs) where
  r0 := by
    by_cases hc : 0 = k ∧ [] = p
    · obtain ⟨rfl, rfl⟩ := hc
      obtain ⟨r, hr⟩ := hW.r0
      rw [hr] at hp
      cases hp
      exact ⟨_, set_new hr⟩
    · rw [set_old hc]; exact hW.r0
  r1 := by
    by_cases hc : 1 = k ∧ [] = p
    · obtain ⟨rfl, rfl⟩ := hc
      obtain ⟨r, hr⟩ := hW.r1
      rw [hr] at hp
      cases hp
      exact ⟨_, set_new hr⟩
    · rw [set_old hc]; exact hW.r1
  closed k' q b h := by
    rw [Ne, (set_none hp _ _).1] at h ⊢
    exact hW.closed k' q b h
  inj k1 p1 k2 p2 b o r r' h1 h2 := by
    rcases set_cases hp h1 with ⟨rfl, rfl, e1⟩ | ⟨_, e1⟩ <;> rcases set_cases hp h2 with ⟨rfl, rfl, e2⟩ | ⟨_, e2⟩
    · exact ⟨rfl, rfl⟩
    · cases e1
      exact hW.inj _ _ _ _ _ _ _ _ hp e2
    · cases e2
      exact hW.inj _ _ _ _ _ _ _ _ e1 hp
    · exact hW.inj _ _ _ _ _ _ _ _ e1 e2
  off k1 p1 b o r h := by
    rcases set_cases hp h with ⟨_, _, e⟩ | ⟨_, e⟩
    · cases e; exact hW.off _ _ _ _ _ hp
    · exact hW.off _ _ _ _ _ e
  sep k1 p1 b o r k2 p2 b2 o2 rb us h1 h2 := by
    have hb : ∃ r', T k1 p1 = some (b, o, r') := by
      rcases set_cases hp h1 with ⟨rfl, rfl, e⟩ | ⟨_, e⟩
      · cases e; exact ⟨_, hp⟩
      · exact ⟨_, e⟩
    obtain ⟨r', hb⟩ := hb
    rcases set_cases hp h2 with ⟨_, _, e2⟩ | ⟨_, e2⟩
    · cases e2
      exact (hfb _ _ _ _ _ hb).1
    · exact hW.sep _ _ _ _ _ _ _ _ _ _ _ hb e2
  sepr k1 p1 b o rb us k2 p2 b2 o2 us2 h1 h2 := by
    rcases set_cases hp h1 with ⟨_, _, e1⟩ | ⟨_, e1⟩ <;> rcases set_cases hp h2 with ⟨_, _, e2⟩ | ⟨_, e2⟩
    · cases e1; cases e2; rfl
    · cases e1
      exact absurd rfl ((hfb _ _ _ _ _ e2).2 _ _ rfl)
    · cases e2
      exact absurd rfl ((hfb _ _ _ _ _ e1).2 _ _ rfl)
    · exact hW.sepr _ _ _ _ _ _ _ _ _ _ _ e1 e2
theorem set_GT {b0 : Nat} {T : Tr} {k : Nat} {p : List Int} {pb po : Nat} (hp : T k p = some (pb, po, none)) (vs : List Value) :
    ∀ bl D w nb, GT b0 T bl D w → ¬ D nb → (∀ i u, vs[i]? = some u → w.cell? ⟨nb, i, none⟩ = some u) → (∀ i, i < vs.length → w.frozen? ⟨nb, i, none⟩ = false) →
      D pb ∧ (∃ v, w.cell? ⟨pb, po + 2, none⟩ = some v) ∧ w.frozen? ⟨pb, po + 2, none⟩ = false ∧ ∃ x, GT b0 (setT T k p x vs) bl (fun e => D e ∨ e = nb) (w.setCell ⟨pb, po + 2, none⟩ (.pointer (some ⟨nb, 0, none⟩))) := by
  intro bl D w nb hG hD hc _
  have hG' := hG
  obtain ⟨hW, hbl, h⟩ := hG
  have hfb := GT_fresh hG' hD
  obtain ⟨g1, g2, g3, g4, g5, g6⟩ := h k p pb po none hp
  have hpo := hW.off _ _ _ _ _ hp
  have hpn := (hfb _ _ _ _ _ hp).1
  refine ⟨g1, ⟨_, g4⟩, g5 2 (by omega), nb, set_wf hW hp hfb, hbl, ?_⟩
  intro k' q b o r hT
  have hold : ∃ r', T k' q = some (b, o, r') := by
    rcases set_cases hp hT with ⟨rfl, rfl, e⟩ | ⟨_, e⟩
    · cases e; exact ⟨_, hp⟩
    · exact ⟨_, e⟩
  obtain ⟨r', hold⟩ := hold
  obtain ⟨q1, q2, q3, q4, q5, q6⟩ := h k' q b o r' hold
  have ho := hW.off _ _ _ _ _ hold
  refine ⟨.inl q1, ?_, ?_, ?_, fun i hi => by rw [World.frozen?_setCell]; exact q5 i hi, fun rb us hr => ?_⟩
  · rw [set_other, q2, (set_none hp _ _).2]
    rintro ⟨_, h2⟩
    rcases ho with rfl | rfl <;> rcases hpo with rfl | rfl <;> simp at h2
  · rw [set_other, q3, (set_none hp _ _).2]
    rintro ⟨_, h2⟩
    rcases ho with rfl | rfl <;> rcases hpo with rfl | rfl <;> simp at h2
  · rcases set_cases hp hT with ⟨rfl, rfl, e⟩ | ⟨hne, e⟩
    · cases e
      rw [World.cell?_setCell_same _ _ _ q4]
      rfl
    · rw [hold] at e
      cases e
      rw [set_other, q4]
      rintro ⟨h1, h2⟩
      have : o = po := by omega
      subst this h1
      obtain ⟨rfl, rfl⟩ := hW.inj _ _ _ _ _ _ _ _ hold hp
      exact hne ⟨rfl, rfl⟩
  · subst hr
    rcases set_cases hp hT with ⟨rfl, rfl, e⟩ | ⟨hne, e⟩
    · cases e
      refine ⟨.inr rfl, fun i u hu => ?_⟩
      rw [set_other (fun e => hpn e.1.symm)]
      exact hc i u hu
    · rw [hold] at e
      cases e
      obtain ⟨z1, z2⟩ := q6 rb us rfl
      refine ⟨.inl z1, fun i u hu => ?_⟩
      rw [set_other, z2 i u hu]
      rintro ⟨h1, _⟩
      exact hW.sep _ _ _ _ _ _ _ _ _ _ _ hp hold h1.symm
end Go.Proofs.YtopadpgpmkkpgaaDoor
set_option maxRecDepth 100000
namespace Go.Proofs.YtopadpgpmkkpgaaDoor
open Go.SX
theorem tree_ret (b : Nat) (v6 : Bool) (hi lo : Int) (w : World) : Ret Tryd.prog 20 [.pointer (some ⟨b, 0, none⟩), .agg #[.bool v6, .int .u64 hi, .int .u64 lo]] w (.pointer (some ⟨b, if v6 then 3 else 0, none⟩)) := by
  have hv : v6 = true ∨ v6 = false := by cases v6 <;> simp
  rcases hv with rfl | rfl
  all_goals refine Ret.tj (I := fun _ => True) (fun _ _ => trivial) (TTok 0 _) Tryd.func20 (by kernel_rfl) rfl ?_
  all_goals repeat' (
    (conv => whnf)
    first
      | (with_reducible first
          | refine TJ.seq ?_
          | refine TJ.region (TTok _ _) ?_
          | refine TJ.drawn (TTok _ _) mixed ?_
          | refine TJ.cond rfl ?_
          | refine TJ.block ?_
          | refine TJ.loop ?_
          | refine LJ.step ?_
          | refine TJ.ret ?_
          | refine TJ.exit ?_
          | refine TJ.skip ?_
          | refine TJ.scope ?_
          | refine TJ.label ?_
          | refine Br.cond_t ?_
          | refine Br.cond_f ?_
          | refine Br.yes (by first | decide | assumption | (apply decide_eq_true; omega)) ?_
          | refine Br.non (by first | decide | assumption | (apply decide_eq_false; omega)) ?_
          | refine Br.cond_ff ?_
          | refine Br.eqT (by omega) ?_
          | refine Br.eqF (by omega) ?_
          | refine Br.neT (by omega) ?_
          | refine Br.neF (by omega) ?_
          | refine Ld.mk' _ rfl ?_
          | refine Need.mk (by first | decide | omega | kernel_rfl) ?_
          | refine Nm.i64 (by omega) ?_
          | refine Nm.u64 (by omega) ?_
          | refine Nm.u8 (by omega) ?_)
      | refine x_exq (TTok _ _) ?_)
  all_goals (conv => whnf)
  all_goals rfl
structure Rw where
  v6 : Bool
  hi : Int
  lo : Int
  bits : Int
  act : Int
def RV (r : Rw) : Value := .agg #[.bool r.v6, .int .u64 r.hi, .int .u64 r.lo, .int .i64 r.bits, .int .i64 r.act]
def rcells (r : Rw) : List Value := [.bool r.v6, .int .u64 r.hi, .int .u64 r.lo, .int .i64 r.bits, .int .i64 r.act]
structure Rw.fits (r : Rw) : Prop where
  hi0 : 0 ≤ r.hi
  hi1 : r.hi ≤ 18446744073709551615
  lo0 : 0 ≤ r.lo
  lo1 : r.lo ≤ 18446744073709551615
def kd (v6 : Bool) : Nat := if v6 then 1 else 0
def bitsU (v6 : Bool) (hi lo : Int) (n : Nat) : List Int := (List.range n).map fun j : Nat => bitM (ph v6 hi lo) (pl v6 lo) (j : Int)
theorem bitsU_succ (v6 : Bool) (hi lo : Int) (n : Nat) : bitsU v6 hi lo (n + 1) = bitsU v6 hi lo n ++ [bitM (ph v6 hi lo) (pl v6 lo) (n : Int)] := by
  simp [bitsU, List.range_succ]
def Rw.path (r : Rw) : List Int := bitsU r.v6 r.hi r.lo r.bits.toNat
def good (r : Rw) : Prop := prefM r.v6 r.hi r.lo r.bits = true ∧ 1 ≤ r.act ∧ r.act ≤ 3
def okR (rs : List Rw) : Prop := (∀ r, r ∈ rs → good r) ∧ rs.Pairwise fun r s => ¬ (kd r.v6 = kd s.v6 ∧ r.path = s.path)
def RI (T : Tr) (rs : List Rw) : Prop := (∀ k p b o rb us, T k p = some (b, o, some (rb, us)) → ∃ r, r ∈ rs ∧ kd r.v6 = k ∧ r.path = p ∧ us = rcells r) ∧ ∀ r, r ∈ rs → ∃ b o rb, T (kd r.v6) r.path = some (b, o, some (rb, rcells r))
theorem RI_T0 (b : Nat) : RI (T0 b) [] := ⟨fun k p b' o rb us h => by obtain ⟨_, ⟨_, h⟩ | ⟨_, h⟩⟩ := T0_some h <;> simp at h, fun r hr => by simp at hr⟩
theorem RI_add {T : Tr} {rs : List Rw} (h : RI T rs) {k : Nat} {p : List Int} {nb : Nat} (hn : T k p = none) : RI (addT T k p nb) rs := by
  refine ⟨fun k' p' b o rb us hT => ?_, fun r hr => ?_⟩
  · rcases add_cases hT with ⟨_, _, e⟩ | ⟨_, e⟩
    · simp at e
    · exact h.1 _ _ _ _ _ _ e
  · obtain ⟨b, o, rb, e⟩ := h.2 r hr
    refine ⟨b, o, rb, ?_⟩
    rw [add_old, e]
    rintro ⟨rfl, rfl⟩
    rw [hn] at e
    cases e
theorem RI_set {T : Tr} {rs : List Rw} (h : RI T rs) {r : Rw} {pb po nb : Nat} (hp : T (kd r.v6) r.path = some (pb, po, none)) : RI (setT T (kd r.v6) r.path nb (rcells r)) (rs ++ [r]) := by
  refine ⟨fun k' p' b o rb us hT => ?_, fun s hs => ?_⟩
  · rcases set_cases hp hT with ⟨rfl, rfl, e⟩ | ⟨_, e⟩
    · cases e
      exact ⟨r, by simp, rfl, rfl, rfl⟩
    · obtain ⟨s, h1, h2⟩ := h.1 _ _ _ _ _ _ e
      exact ⟨s, by simp [h1], h2⟩
  · rcases List.mem_append.1 hs with h1 | h1
    · obtain ⟨b, o, rb, e⟩ := h.2 s h1
      refine ⟨b, o, rb, ?_⟩
      rw [set_old, e]
      rintro ⟨e1, e2⟩
      rw [e1, e2, hp] at e
      cases e
    · simp only [List.mem_singleton] at h1
      subst h1
      exact ⟨_, _, _, set_new hp⟩
theorem okR_snoc {rs : List Rw} {r : Rw} {T : Tr} (hI : RI T rs) (h : okR rs) (hg : good r) {x : Nat × Nat} (hp : T (kd r.v6) r.path = some (x.1, x.2, none)) : okR (rs ++ [r]) := by
  refine ⟨fun s hs => ?_, ?_⟩
  · rcases List.mem_append.1 hs with h1 | h1
    · exact h.1 s h1
    · simp only [List.mem_singleton] at h1
      subst h1
      exact hg
  · rw [List.pairwise_append]
    refine ⟨h.2, by simp, fun s hs t ht => ?_⟩
    simp only [List.mem_singleton] at ht
    subst ht
    rintro ⟨e1, e2⟩
    obtain ⟨b, o, rb, e⟩ := hI.2 s hs
    rw [e1, e2, hp] at e
    cases e
theorem okR_bad {rs : List Rw} {i : Nat} {r : Rw} (hi : rs[i]? = some r) (hg : ¬ good r) : ¬ okR rs := fun h => hg (h.1 r (List.mem_of_getElem? hi))
theorem okR_dup {rs : List Rw} {i : Nat} {r : Rw} {T : Tr} (hi : rs[i]? = some r) (hI : RI T (rs.take i)) {b o rb : Nat} {us : List Value} (hp : T (kd r.v6) r.path = some (b, o, some (rb, us))) : ¬ okR rs := by
  rintro ⟨_, h⟩
  obtain ⟨s, hs, e1, e2, _⟩ := hI.1 _ _ _ _ _ _ hp
  obtain ⟨j, hj⟩ := List.mem_iff_getElem?.1 hs
  rw [List.getElem?_take] at hj
  split at hj
  · rename_i hji
    obtain ⟨hj1, hj2⟩ := List.getElem?_eq_some_iff.1 hj
    obtain ⟨hi1, hi2⟩ := List.getElem?_eq_some_iff.1 hi
    have := List.pairwise_iff_getElem.1 h j i hj1 hi1 hji
    rw [hj2, hi2] at this
    exact this ⟨e1, e2⟩
  · cases hj
end Go.Proofs.YtopadpgpmkkpgaaDoor
set_option maxRecDepth 100000
namespace Go.Proofs.YtopadpgpmkkpgaaDoor
open Go.SX
theorem bitM01 (hi lo k : Int) : bitM hi lo k = 0 ∨ bitM hi lo k = 1 := by
  unfold bitM
  split <;> omega
theorem ex_stab {α : Type} {G : α → Nat → (Nat → Prop) → World → Prop} (h : ∀ x, StabT (G x)) : StabT (fun bl D w => ∃ x, G x bl D w) :=
  fun bl D w w' hw ⟨x, hx⟩ => ⟨x, h x _ _ _ _ hw hx⟩
theorem GT_c0 {b : Nat} {T : Tr} {k : Nat} {p : List Int} {pb po : Nat} {pr : Option (Nat × List Value)} (hp : T k p = some (pb, po, pr)) {o : Option Pl} (ho : T k (p ++ [0]) = o) : ∀ bl D w, GT b T bl D w → ∀ i u, [ptrOf o][i]? = some u → w.cell? ⟨pb, po + 0 + i, none⟩ = some u := by
  subst ho
  intro bl D w h i u hu
  cases i with
  | zero => cases hu; exact (h.2.2 _ _ _ _ _ hp).2.1
  | succ i => simp at hu
theorem GT_c1 {b : Nat} {T : Tr} {k : Nat} {p : List Int} {pb po : Nat} {pr : Option (Nat × List Value)} (hp : T k p = some (pb, po, pr)) {o : Option Pl} (ho : T k (p ++ [1]) = o) : ∀ bl D w, GT b T bl D w → ∀ i u, [ptrOf o][i]? = some u → w.cell? ⟨pb, po + 1 + i, none⟩ = some u := by
  subst ho
  intro bl D w h i u hu
  cases i with
  | zero => cases hu; exact (h.2.2 _ _ _ _ _ hp).2.2.1
  | succ i => simp at hu
theorem GT_c2 {b : Nat} {T : Tr} {k : Nat} {p : List Int} {pb po : Nat} {pr : Option (Nat × List Value)} (hp : T k p = some (pb, po, pr)) : ∀ bl D w, GT b T bl D w → ∀ i u, [rptr pr][i]? = some u → w.cell? ⟨pb, po + 2 + i, none⟩ = some u := by
  intro bl D w h i u hu
  cases i with
  | zero => cases hu; exact (h.2.2 _ _ _ _ _ hp).2.2.2.1
  | succ i => simp at hu
theorem add_hp {T : Tr} {k : Nat} {p : List Int} {β : Int} {nb : Nat} {x : Pl} (hp : T k p = some x) : addT T k (p ++ [β]) nb k p = some x := by rw [add_old (by simp)]; exact hp
/-- What stands where the rules lie. -/
structure IR (rb ro : Nat) (rs : List Rw) (w : World) : Prop where
  cell : ∀ i r, rs[i]? = some r → ∀ j u, (rcells r)[j]? = some u → w.cell? ⟨rb, ro + i * 5 + j, none⟩ = some u
theorem IR.mod {rb ro : Nat} {rs : List Rw} {w w' : World} (h : IR rb ro rs w) (hm : Mod w w' fun _ => False) : IR rb ro rs w' := by
  refine ⟨fun i r hr j u hu => ?_⟩
  have h1 := h.cell i r hr j u hu
  have hlt : rb < w.heap.size := by
    rcases Nat.lt_or_ge rb w.heap.size with h2 | h2
    · exact h2
    · simp [World.cell?, Array.getElem?_eq_none h2] at h1
  rw [cell_same (hm.block rb hlt id)]
  exact h1
theorem IR.load {rb ro : Nat} {rs : List Rw} {w : World} (h : IR rb ro rs w) {i : Nat} {r : Rw} (hr : rs[i]? = some r) : (loadVar 36 ⟨rb, ro + i * 5, none⟩).run Tryd.prog w = .ok (RV r) w := by
  obtain ⟨y, hy, hd⟩ : ∃ y, getO TT 36 = some y ∧ y.size = 5 ∧ aggd y = true ∧ mkVal y (rcells r) = RV r := ⟨_, rfl, rfl, rfl, rfl⟩
  have := ((TTok 0 (fun _ => True)) 36 y hy).run_load (w := w) ⟨rb, ro + i * 5, none⟩ (rcells r) (by rw [hd.1]; rfl) (fun hz => by rw [hd.2.1] at hz; cases hz) (fun j u hu => by
    rw [add_none]
    exact h.cell i r hr j u hu)
  have e := hd.2.2
  unfold mkVal at e
  rw [e] at this
  exact this
def QN (w0 : World) (rs : List Rw) (w' : World) (v : Value) : Prop :=
  (okR rs ∧ ∃ b D T, v = .tuple #[.pointer (some ⟨b, 0, none⟩), .int .i64 0] ∧ GT b T b D w' ∧ RI T rs ∧ ∀ e, D e → w0.heap.size ≤ e ∧ e < w'.heap.size) ∨ (¬ okR rs ∧ v = .tuple #[.pointer none, .int .i64 12])
set_option maxHeartbeats 4000000 in
theorem new_ret (rb ro cap : Nat) (rs : List Rw) (w : World) (hI : IR rb ro rs w) (hf : ∀ r, r ∈ rs → r.fits) (hn : rs.length < 4294967296) :
    RetQ Tryd.prog 9 [.slice (some ⟨rb, ro, none⟩) rs.length cap] w (QN w rs) := by
  refine RetQ.of (I := IR rb ro rs) (fun w' hm => hI.mod hm) (TTok 0 _) Tryd.func9 (by kernel_rfl) rfl rfl ?_
  repeat' (
    (conv => whnf)
    first
      | (with_reducible first
          | (refine TR.open_own (d := 13) (us := [.pointer none, .pointer none, .pointer none, .pointer none, .pointer none, .pointer none]) rfl (Nat.zero_le _) (fun b => TR.ex_tab (d := 13) (α := Unit) (G := fun _ => GT b (T0 b)) rfl rfl (fun bl D w h => ⟨(), T0_GT b bl D w h⟩) (fun _ => GT_stab b _) (fun _ => ?_)))
          | refine TR.seq ?_
          | refine TR.region (TTok _ _) ?_
          | refine TR.drawn (TTok _ _) mixed ?_
          | refine TR.block ?_
          | refine TR.ret ?_
          | refine TR.exit ?_
          | refine TR.skip ?_
          | refine TR.condB rfl ?_
          | refine Ld.mk' _ rfl ?_
          | refine Need.mk (by first | decide | omega | kernel_rfl) ?_
          | refine Nm.i64 (by omega) ?_
          | refine Nm.u64 (by omega) ?_
          | refine Nm.u8 (by omega) ?_)
      | refine x_exq (TTok _ _) ?_)
  all_goals (conv => whnf)
  refine TR.loopH (fun x : Int × Tr × Nat => [(16, .v (.int .i64 x.1))]) (fun x => [(13, ⟨.tab (GT b x.2.1), 58, 6, x.2.2, []⟩)]) (fun x => 0 ≤ x.1 ∧ x.1 ≤ rs.length ∧ RI x.2.1 (rs.take x.1.toNat) ∧ okR (rs.take x.1.toNat)) (fun x => (rs.length - x.1).toNat) (0, T0 b, 1) ⟨by simp, by simp, by simpa using RI_T0 b, ⟨fun r hr => by simp at hr, by simp⟩⟩ ?_ ?_
  · repeat' ((conv => whnf); first | exact trivial | exact Fgt.mk rfl rfl rfl | refine And.intro rfl ?_ | refine And.intro ?_ ?_)
  · rintro ⟨i, T, ver⟩ ⟨i0, i1, hRI, hok⟩
    dsimp only at i0 i1 hRI hok ⊢
    refine TR.pure_tab (d := 13) rfl rfl (fun bl D w h => h.1) (fun hW => ?_)
    by_cases hi : i < rs.length
    · obtain ⟨r, hr⟩ : ∃ r, rs[i.toNat]? = some r := ⟨rs[i.toNat], by rw [List.getElem?_eq_getElem]⟩
      have hfit := hf r (List.mem_of_getElem? hr)
      have hpr : ∀ w, Ret Tryd.prog 19 [.agg #[.bool r.v6, .int .u64 r.hi, .int .u64 r.lo, .int .i64 r.bits]] w (.bool (prefM r.v6 r.hi r.lo r.bits)) := fun w => pref_ret _ _ _ _ w
      by_cases hg : good r
      · obtain ⟨hg1, hg2, hg3⟩ := id hg
        rw [hg1] at hpr
        obtain ⟨v6, rhi, rlo, bits, act⟩ := r
        simp only at hg1 hg2 hg3 hpr
        have hw : 32 ≤ wid v6 ∧ wid v6 ≤ 128 := by cases v6 <;> simp [wid]
        have hb : 0 ≤ bits ∧ bits ≤ wid v6 := by
          simp only [prefM, wid] at hg1 ⊢
          simp_all
        have hld : ∀ w, IR rb ro rs w → (loadVar 36 ⟨rb, ro + i.toNat * 5, none⟩).run Tryd.prog w = .ok (.agg #[.bool v6, .int .u64 rhi, .int .u64 rlo, .int .i64 bits, .int .i64 act]) w := fun w hw => hw.load hr
        repeat' (
          (conv => whnf)
          first
            | (with_reducible first
                | refine TR.seq ?_
                | refine TR.region (TTok _ _) ?_
                | refine TR.drawn (TTok _ _) mixed ?_
                | refine TR.block ?_
                | refine TR.ret ?_
                | refine TR.exit ?_
                | refine TR.skip ?_
                | refine TR.condB rfl ?_
                | refine Br.cond_t ?_
                | refine Br.cond_f ?_
                | refine Br.yes (by first | decide | assumption | (apply decide_eq_true; omega)) ?_
                | refine Br.non (by first | decide | assumption | (apply decide_eq_false; omega)) ?_
                | refine Br.cond_ff ?_
                | refine Br.eqT (by omega) ?_
                | refine Br.eqF (by omega) ?_
                | refine Br.neT (by omega) ?_
                | refine Br.neF (by omega) ?_
                | refine Ld.mk' _ rfl ?_
                | refine Need.mk (by first | decide | omega | kernel_rfl) ?_
                | refine Nm.i64 (by omega) ?_
                | refine Nm.u64 (by omega) ?_
                | refine Nm.u8 (by omega) ?_
                | refine x_load_ext rfl rfl (fun w hw => hld w hw) ?_
                | refine x_ret (f := 19) rfl rfl (fun w _ => hpr w) ?_
                | refine x_ret (f := 20) rfl rfl (fun w _ => tree_ret _ _ _ _ w) ?_
                | refine x_ret (f := 21) rfl rfl (fun w _ => path_ret _ _ _ w) ?_)
            | refine x_exq (TTok _ _) ?_)
        all_goals (conv => whnf)
        generalize hk : kd v6 = kv
        refine TR.loopH (fun x : Int × Tr × Nat × Nat × Nat => [(46, .v (.int .i64 x.1)), (7, .v (.pointer (some ⟨x.2.2.2.1, x.2.2.2.2, none⟩)))]) (fun x => [(13, ⟨.tab (GT b x.2.1), 58, 6, x.2.2.1, []⟩)])
          (fun x => 0 ≤ x.1 ∧ x.1 ≤ bits ∧ (∃ r, x.2.1 kv (bitsU v6 rhi rlo x.1.toNat) = some (x.2.2.2.1, x.2.2.2.2, r)) ∧ RI x.2.1 (rs.take i.toNat)) (fun x => (bits - x.1).toNat) (0, T, ver, b, if v6 then 3 else 0) ⟨by simp, hb.1, ?_, hRI⟩ ?_ ?_
        · subst hk
          cases v6
          · exact hW.r0
          · exact hW.r1
        · repeat' ((conv => whnf); first | exact trivial | exact Fgt.mk rfl rfl rfl | refine And.intro rfl ?_ | refine And.intro ?_ ?_)
        · rintro ⟨j, T', ver', pb, po⟩ ⟨j0, j1, ⟨pr, hp⟩, hRI'⟩
          dsimp only at j0 j1 hp hRI' ⊢
          refine TR.pure_tab (d := 13) rfl rfl (fun bl D w h => h.1) (fun hW' => ?_)
          have ho := hW'.off _ _ _ _ _ hp
          by_cases hj : j < bits
          · have hbr : ∀ w, Ret Tryd.prog 22 [.agg #[.int .u64 (ph v6 rhi rlo), .int .u64 (pl v6 rlo), .int .i64 (wid v6)], .int .i64 j] w (.int .i64 (bitM (ph v6 rhi rlo) (pl v6 rlo) j)) := fun w => bit_ret _ _ _ _ w (by omega) (by omega) (ph_range _ _ _ ⟨hfit.hi0, hfit.hi1⟩) (pl_range _ _ ⟨hfit.lo0, hfit.lo1⟩)
            have hsucc := bitsU_succ v6 rhi rlo j.toNat
            rw [show ((j.toNat : Nat) : Int) = j by omega] at hsucc
            have hjs : (j + 1).toNat = j.toNat + 1 := by omega
            rw [← hjs] at hsucc
            have h01 := bitM01 (ph v6 rhi rlo) (pl v6 rlo) j
            generalize bitM (ph v6 rhi rlo) (pl v6 rlo) j = β at hbr hsucc h01
            generalize bitsU v6 rhi rlo j.toNat = p at hp hsucc
            obtain ⟨ch, hch⟩ : ∃ c, T' kv (bitsU v6 rhi rlo (j + 1).toNat) = c := ⟨_, rfl⟩
            rw [hsucc] at hch
            rcases ch with _ | ⟨cb, co, cr⟩ <;> rcases ho with rfl | rfl <;> rcases h01 with rfl | rfl
            all_goals repeat' (
              (conv => whnf)
              first
                | (with_reducible first
                    | refine @TR.ex_tab _ _ _ _ 13 _ _ Nat (fun x => GT b (addT T' kv (p ++ [0]) x)) rfl rfl (fun bl D w h => h) (fun x => GT_stab _ _) (fun x => ?_)
                    | refine @TR.ex_tab _ _ _ _ 13 _ _ Nat (fun x => GT b (addT T' kv (p ++ [1]) x)) rfl rfl (fun bl D w h => h) (fun x => GT_stab _ _) (fun x => ?_)
                    | refine TR.seq ?_
                    | refine TR.region (TTok _ _) ?_
                    | refine TR.drawn (TTok _ _) mixed ?_
                    | refine TR.block ?_
                    | refine TR.ret ?_
                    | refine TR.exit ?_
                    | refine TR.skip ?_
                    | refine TR.condB rfl ?_
                    | refine Br.cond_t ?_
                    | refine Br.cond_f ?_
                    | refine Br.yes (by first | decide | assumption | (apply decide_eq_true; omega)) ?_
                    | refine Br.non (by first | decide | assumption | (apply decide_eq_false; omega)) ?_
                    | refine Br.cond_ff ?_
                    | refine Br.eqT (by omega) ?_
                    | refine Br.eqF (by omega) ?_
                    | refine Br.neT (by omega) ?_
                    | refine Br.neF (by omega) ?_
                    | refine Ld.mk' _ rfl ?_
                    | refine Need.mk (by first | decide | omega | kernel_rfl) ?_
                    | refine Nm.i64 (by omega) ?_
                    | refine Nm.u64 (by omega) ?_
                    | refine Nm.u8 (by omega) ?_
                    | refine x_ret (f := 22) rfl rfl (fun w _ => hbr w) ?_)
                | refine x_load_tab (TTok _ _) (c := 13) (us := [ptrOf none]) rfl rfl rfl rfl rfl (fun _ => rfl) rfl (GT_c0 hp hch) ?_
                | refine x_load_tab (TTok _ _) (c := 13) (us := [ptrOf none]) rfl rfl rfl rfl rfl (fun _ => rfl) rfl (GT_c1 hp hch) ?_
                | refine x_load_tab (TTok _ _) (c := 13) (us := [ptrOf (some (cb, co, cr))]) rfl rfl rfl rfl rfl (fun _ => rfl) rfl (GT_c0 hp hch) ?_
                | refine x_load_tab (TTok _ _) (c := 13) (us := [ptrOf (some (cb, co, cr))]) rfl rfl rfl rfl rfl (fun _ => rfl) rfl (GT_c1 hp hch) ?_
                | refine x_store_tab_ref (TTok _ _) (c := 13) (d := 62) (us := [.pointer none, .pointer none, .pointer none]) (F' := fun bl D w => ∃ x, GT b (addT T' kv (p ++ [0]) x) bl D w) rfl rfl rfl rfl rfl rfl rfl (by decide) rfl rfl (add_GT hp (.inl rfl) hch) (ex_stab fun x => GT_stab _ _) ?_
                | refine x_store_tab_ref (TTok _ _) (c := 13) (d := 62) (us := [.pointer none, .pointer none, .pointer none]) (F' := fun bl D w => ∃ x, GT b (addT T' kv (p ++ [1]) x) bl D w) rfl rfl rfl rfl rfl rfl rfl (by decide) rfl rfl (add_GT hp (.inr rfl) hch) (ex_stab fun x => GT_stab _ _) ?_
                | refine x_load_tab (TTok _ _) (c := 13) (us := [ptrOf (some (_, 0, none))]) rfl rfl rfl rfl rfl (fun _ => rfl) rfl (GT_c0 (add_hp hp) (add_new _ _ _ _)) ?_
                | refine x_load_tab (TTok _ _) (c := 13) (us := [ptrOf (some (_, 0, none))]) rfl rfl rfl rfl rfl (fun _ => rfl) rfl (GT_c1 (add_hp hp) (add_new _ _ _ _)) ?_
                | refine Br.non rfl ?_
                | refine Br.yes rfl ?_
                | (refine x_exq (TTok _ _) ?_; (conv => whnf); fail_if_success (guard_target =ₛ False)))
            all_goals (conv => whnf)
            all_goals first
              | refine ⟨(j + 1, T', ver', cb, co), ⟨by dsimp only; omega, by dsimp only; omega, ⟨cr, by dsimp only; rw [hsucc]; exact hch⟩, hRI'⟩, by dsimp only; omega, ?_⟩
              | (rename_i x; refine ⟨(j + 1, addT T' kv (p ++ [0]) x, ver' + 1, x, 0), ⟨by dsimp only; omega, by dsimp only; omega, ⟨none, by dsimp only; rw [hsucc]; exact add_new _ _ _ _⟩, RI_add hRI' hch⟩, by dsimp only; omega, ?_⟩)
              | (rename_i x; refine ⟨(j + 1, addT T' kv (p ++ [1]) x, ver' + 1, x, 0), ⟨by dsimp only; omega, by dsimp only; omega, ⟨none, by dsimp only; rw [hsucc]; exact add_new _ _ _ _⟩, RI_add hRI' hch⟩, by dsimp only; omega, ?_⟩)
              | trace_state
            all_goals repeat' ((conv => whnf); first | exact trivial | exact Fgt.mk rfl rfl rfl | refine And.intro rfl ?_ | refine And.intro ?_ ?_)
          · have hje : j = bits := by omega
            subst hje
            have hpath : bitsU v6 rhi rlo j.toNat = Rw.path ⟨v6, rhi, rlo, j, act⟩ := rfl
            have hkv : kd (Rw.v6 ⟨v6, rhi, rlo, j, act⟩) = kv := hk
            rw [hpath, ← hkv] at hp
            rcases pr with _ | ⟨qb, us⟩ <;> rcases ho with rfl | rfl
            all_goals repeat' (
              (conv => whnf)
              first
                | (with_reducible first
                    | refine @TR.ex_tab _ _ _ _ 13 _ _ Nat (fun x => GT b (setT T' (kd (Rw.v6 ⟨v6, rhi, rlo, j, act⟩)) (Rw.path ⟨v6, rhi, rlo, j, act⟩) x (rcells ⟨v6, rhi, rlo, j, act⟩))) rfl rfl (fun bl D w h => h) (fun x => GT_stab _ _) (fun x => ?_)
                    | refine TR.seq ?_
                    | refine TR.region (TTok _ _) ?_
                    | refine TR.drawn (TTok _ _) mixed ?_
                    | refine TR.block ?_
                    | refine TR.ret ?_
                    | refine TR.exit ?_
                    | refine TR.skip ?_
                    | refine TR.condB rfl ?_
                    | refine Br.cond_t ?_
                    | refine Br.cond_f ?_
                    | refine Br.yes (by first | decide | assumption | (apply decide_eq_true; omega)) ?_
                    | refine Br.non (by first | decide | assumption | (apply decide_eq_false; omega)) ?_
                    | refine Br.cond_ff ?_
                    | refine Br.eqT (by omega) ?_
                    | refine Br.eqF (by omega) ?_
                    | refine Br.neT (by omega) ?_
                    | refine Br.neF (by omega) ?_
                    | refine Ld.mk' _ rfl ?_
                    | refine Need.mk (by first | decide | omega | kernel_rfl) ?_
                    | refine Nm.i64 (by omega) ?_
                    | refine Nm.u64 (by omega) ?_
                    | refine Nm.u8 (by omega) ?_)
                | refine x_load_tab (TTok _ _) (c := 13) (us := [rptr none]) rfl rfl rfl rfl rfl (fun _ => rfl) rfl (GT_c2 hp) ?_
                | refine x_load_tab (TTok _ _) (c := 13) (us := [rptr (some (qb, us))]) rfl rfl rfl rfl rfl (fun _ => rfl) rfl (GT_c2 hp) ?_
                | refine x_store_tab_ref (TTok _ _) (c := 13) (d := 11) (us := rcells ⟨v6, rhi, rlo, j, act⟩) (F' := fun bl D w => ∃ x, GT b (setT T' (kd (Rw.v6 ⟨v6, rhi, rlo, j, act⟩)) (Rw.path ⟨v6, rhi, rlo, j, act⟩) x (rcells ⟨v6, rhi, rlo, j, act⟩)) bl D w) rfl rfl rfl rfl rfl rfl rfl (by decide) rfl rfl (set_GT hp _) (ex_stab fun x => GT_stab _ _) ?_
                | refine Br.non rfl ?_
                | refine Br.yes rfl ?_
                | (refine x_exq (TTok _ _) ?_; (conv => whnf); fail_if_success (guard_target =ₛ False)))
            all_goals (conv => whnf)
            all_goals first
              | exact Fin.value rfl (fun w' => .inr ⟨okR_dup hr hRI' hp, rfl⟩)
              | (rename_i x
                 have htk : rs.take (i + 1).toNat = rs.take i.toNat ++ [⟨v6, rhi, rlo, j, act⟩] := by
                   rw [show (i + 1).toNat = i.toNat + 1 by omega, List.take_add_one, hr]
                   rfl
                 refine ⟨(i + 1, setT T' (kd (Rw.v6 ⟨v6, rhi, rlo, j, act⟩)) (Rw.path ⟨v6, rhi, rlo, j, act⟩) x (rcells ⟨v6, rhi, rlo, j, act⟩), ver' + 1), ⟨by dsimp only; omega, by dsimp only; omega, by dsimp only; rw [htk]; exact RI_set hRI' hp, by dsimp only; rw [htk]; exact okR_snoc (x := (_, _)) hRI' hok hg hp⟩, by dsimp only; omega, ?_⟩)
            all_goals repeat' ((conv => whnf); first | exact trivial | exact Fgt.mk rfl rfl rfl | refine And.intro rfl ?_ | refine And.intro ?_ ?_)
      · obtain ⟨v6, rhi, rlo, bits, act⟩ := r
        have hld : ∀ w, IR rb ro rs w → (loadVar 36 ⟨rb, ro + i.toNat * 5, none⟩).run Tryd.prog w = .ok (.agg #[.bool v6, .int .u64 rhi, .int .u64 rlo, .int .i64 bits, .int .i64 act]) w := fun w hw => hw.load hr
        have hcs : prefM v6 rhi rlo bits = false ∨ (prefM v6 rhi rlo bits = true ∧ act < 1) ∨ (prefM v6 rhi rlo bits = true ∧ 1 ≤ act ∧ 3 < act) := by
          cases hx : prefM v6 rhi rlo bits with
          | false => exact .inl rfl
          | true =>
            refine .inr ?_
            by_cases h1 : act < 1
            · exact .inl ⟨rfl, h1⟩
            · by_cases h3 : 3 < act
              · exact .inr ⟨rfl, by omega, h3⟩
              · exact absurd ⟨hx, by dsimp only; omega, by dsimp only; omega⟩ hg
        simp only at hpr
        rcases hcs with hq | ⟨hq, ha⟩ | ⟨hq, ha, ha'⟩
        all_goals rw [hq] at hpr
        all_goals repeat' (
          (conv => whnf)
          first
            | (with_reducible first
                | refine TR.seq ?_
                | refine TR.region (TTok _ _) ?_
                | refine TR.drawn (TTok _ _) mixed ?_
                | refine TR.block ?_
                | refine TR.ret ?_
                | refine TR.exit ?_
                | refine TR.skip ?_
                | refine TR.condB rfl ?_
                | refine Br.cond_t ?_
                | refine Br.cond_f ?_
                | refine Br.yes (by first | decide | assumption | (apply decide_eq_true; omega)) ?_
                | refine Br.non (by first | decide | assumption | (apply decide_eq_false; omega)) ?_
                | refine Br.cond_ff ?_
                | refine Br.eqT (by omega) ?_
                | refine Br.eqF (by omega) ?_
                | refine Br.neT (by omega) ?_
                | refine Br.neF (by omega) ?_
                | refine Ld.mk' _ rfl ?_
                | refine Need.mk (by first | decide | omega | kernel_rfl) ?_
                | refine Nm.i64 (by omega) ?_
                | refine Nm.u64 (by omega) ?_
                | refine Nm.u8 (by omega) ?_
                | refine x_load_ext rfl rfl (fun w hw => hld w hw) ?_
                | refine x_ret (f := 19) rfl rfl (fun w _ => hpr w) ?_)
            | refine x_exq (TTok _ _) ?_)
        all_goals (conv => whnf)
        all_goals exact Fin.value rfl (fun w' => .inr ⟨okR_bad hr hg, rfl⟩)
    · skip
      repeat' (
        (conv => whnf)
        first
          | (with_reducible first
              | refine TR.seq ?_
              | refine TR.region (TTok _ _) ?_
              | refine TR.drawn (TTok _ _) mixed ?_
              | refine TR.block ?_
              | refine TR.ret ?_
              | refine TR.exit ?_
              | refine TR.skip ?_
              | refine TR.condB rfl ?_
              | refine Br.cond_t ?_
              | refine Br.cond_f ?_
              | refine Br.yes (by first | decide | assumption | (apply decide_eq_true; omega)) ?_
              | refine Br.non (by first | decide | assumption | (apply decide_eq_false; omega)) ?_
              | refine Br.cond_ff ?_
              | refine Br.eqT (by omega) ?_
              | refine Br.eqF (by omega) ?_
              | refine Br.neT (by omega) ?_
              | refine Br.neF (by omega) ?_
              | refine Ld.mk' _ rfl ?_
              | refine Need.mk (by first | decide | omega | kernel_rfl) ?_
              | refine Nm.i64 (by omega) ?_
              | refine Nm.u64 (by omega) ?_
              | refine Nm.u8 (by omega) ?_)
          | refine x_exq (TTok _ _) ?_)
      all_goals (conv => whnf)
      have hie : i = rs.length := by omega
      subst hie
      simp only [Int.toNat_natCast, List.take_length] at hRI hok
      exact Fin.tab (c := 13) rfl rfl rfl fun bl D w' hG hD => .inl ⟨hok, b, D, T, rfl, hG.2.1 ▸ hG, hRI, hD⟩
end Go.Proofs.YtopadpgpmkkpgaaDoor
set_option maxRecDepth 100000
namespace Go.Proofs.YtopadpgpmkkpgaaDoor
open Go.SX
theorem cell_lt {w : World} {b o : Nat} {u : Value} (h : w.cell? ⟨b, o, none⟩ = some u) : b < w.heap.size := by
  rcases Nat.lt_or_ge b w.heap.size with h2 | h2
  · exact h2
  · simp [World.cell?, Array.getElem?_eq_none h2] at h
theorem GT.mod {b : Nat} {T : Tr} {bl : Nat} {D : Nat → Prop} {w w' : World} (h : GT b T bl D w) (hm : Mod w w' fun _ => False) : GT b T bl D w' := by
  obtain ⟨h1, h2, h3⟩ := h
  refine ⟨h1, h2, fun k p b o r hT => ?_⟩
  obtain ⟨g1, g2, g3, g4, g5, g6⟩ := h3 k p b o r hT
  have hb := hm.block b (cell_lt g2) id
  refine ⟨g1, by rw [cell_same hb]; exact g2, by rw [cell_same hb]; exact g3, by rw [cell_same hb]; exact g4, fun i hi => by rw [frozen_same hb]; exact g5 i hi, fun rb us hr => ?_⟩
  obtain ⟨q1, q2⟩ := g6 rb us hr
  refine ⟨q1, fun i u hu => ?_⟩
  have h5 := q2 i u hu
  rw [cell_same (hm.block rb (cell_lt h5) id)]
  exact h5
/-- The memory holds the tree. -/
structure IG (b : Nat) (T : Tr) (w : World) : Prop where
  g : ∃ bl D, GT b T bl D w
theorem IG.mod {b : Nat} {T : Tr} {w w' : World} (h : IG b T w) (hm : Mod w w' fun _ => False) : IG b T w' := by
  obtain ⟨bl, D, h⟩ := h.g
  exact ⟨bl, D, h.mod hm⟩
theorem load51 {w : World} {b o : Nat} {u : Value} (h : w.cell? ⟨b, o, none⟩ = some u) : (loadVar 51 ⟨b, o, none⟩).run Tryd.prog w = .ok u w := by
  obtain ⟨y, hy, hd⟩ : ∃ y, getO TT 51 = some y ∧ y.size = 1 ∧ aggd y = false := ⟨_, rfl, rfl, rfl⟩
  have := ((TTok 0 (fun _ => True)) 51 y hy).run_load (w := w) ⟨b, o, none⟩ [u] (by rw [hd.1]; rfl) (fun _ => hd.1) (fun j v hv => by
    rw [add_none]
    cases j with
    | zero => cases hv; exact h
    | succ j => simp at hv)
  rw [hd.2] at this
  exact this
theorem load53 {w : World} {b o : Nat} {u : Value} (h : w.cell? ⟨b, o, none⟩ = some u) : (loadVar 53 ⟨b, o, none⟩).run Tryd.prog w = .ok u w := by
  obtain ⟨y, hy, hd⟩ : ∃ y, getO TT 53 = some y ∧ y.size = 1 ∧ aggd y = false := ⟨_, rfl, rfl, rfl⟩
  have := ((TTok 0 (fun _ => True)) 53 y hy).run_load (w := w) ⟨b, o, none⟩ [u] (by rw [hd.1]; rfl) (fun _ => hd.1) (fun j v hv => by
    rw [add_none]
    cases j with
    | zero => cases hv; exact h
    | succ j => simp at hv)
  rw [hd.2] at this
  exact this
theorem IG.c0 {b : Nat} {T : Tr} {w : World} (h : IG b T w) {k : Nat} {p : List Int} {pb po : Nat} {pr : Option (Nat × List Value)} (hp : T k p = some (pb, po, pr)) {o : Option Pl} (ho : T k (p ++ [0]) = o) : (loadVar 51 ⟨pb, po, none⟩).run Tryd.prog w = .ok (ptrOf o) w := by
  obtain ⟨bl, D, h⟩ := h.g
  exact load51 (ho ▸ (h.2.2 _ _ _ _ _ hp).2.1)
theorem IG.c1 {b : Nat} {T : Tr} {w : World} (h : IG b T w) {k : Nat} {p : List Int} {pb po : Nat} {pr : Option (Nat × List Value)} (hp : T k p = some (pb, po, pr)) {o : Option Pl} (ho : T k (p ++ [1]) = o) : (loadVar 51 ⟨pb, po + 1, none⟩).run Tryd.prog w = .ok (ptrOf o) w := by
  obtain ⟨bl, D, h⟩ := h.g
  exact load51 (ho ▸ (h.2.2 _ _ _ _ _ hp).2.2.1)
theorem IG.c2 {b : Nat} {T : Tr} {w : World} (h : IG b T w) {k : Nat} {p : List Int} {pb po : Nat} {pr : Option (Nat × List Value)} (hp : T k p = some (pb, po, pr)) : (loadVar 53 ⟨pb, po + 2, none⟩).run Tryd.prog w = .ok (rptr pr) w := by
  obtain ⟨bl, D, h⟩ := h.g
  exact load53 (h.2.2 _ _ _ _ _ hp).2.2.2.1
theorem IG.act {b : Nat} {T : Tr} {w : World} (h : IG b T w) {k : Nat} {p : List Int} {pb po rb : Nat} {r : Rw} (hp : T k p = some (pb, po, some (rb, rcells r))) : (loadVar 3 ⟨rb, 4, none⟩).run Tryd.prog w = .ok (.int .i64 r.act) w := by
  obtain ⟨bl, D, h⟩ := h.g
  have hc := ((h.2.2 _ _ _ _ _ hp).2.2.2.2.2 _ _ rfl).2 4 _ rfl
  obtain ⟨y, hy, hd⟩ : ∃ y, getO TT 3 = some y ∧ y.size = 1 ∧ aggd y = false := ⟨_, rfl, rfl, rfl⟩
  have := ((TTok 0 (fun _ => True)) 3 y hy).run_load (w := w) ⟨rb, 4, none⟩ [.int .i64 r.act] (by rw [hd.1]; rfl) (fun _ => hd.1) (fun j v hv => by
    rw [add_none]
    cases j with
    | zero => cases hv; exact hc
    | succ j => simp at hv)
  rw [hd.2] at this
  exact this
theorem IG.pref {b : Nat} {T : Tr} {w : World} (h : IG b T w) {k : Nat} {p : List Int} {pb po rb : Nat} {r : Rw} (hp : T k p = some (pb, po, some (rb, rcells r))) : (loadVar 34 ⟨rb, 0, none⟩).run Tryd.prog w = .ok (.agg #[.bool r.v6, .int .u64 r.hi, .int .u64 r.lo, .int .i64 r.bits]) w := by
  obtain ⟨bl, D, h⟩ := h.g
  have hc := ((h.2.2 _ _ _ _ _ hp).2.2.2.2.2 _ _ rfl).2
  obtain ⟨y, hy, hd⟩ : ∃ y, getO TT 34 = some y ∧ y.size = 4 ∧ aggd y = true := ⟨_, rfl, rfl, rfl⟩
  have := ((TTok 0 (fun _ => True)) 34 y hy).run_load (w := w) ⟨rb, 0, none⟩ [.bool r.v6, .int .u64 r.hi, .int .u64 r.lo, .int .i64 r.bits] (by rw [hd.1]; rfl) (fun hz => by rw [hd.2] at hz; cases hz) (fun j v hv => by
    rw [add_none, Nat.zero_add]
    refine hc j v ?_
    rw [← hv]
    have hj : j < 4 := by
      rcases Nat.lt_or_ge j 4 with h1 | h1
      · exact h1
      · rw [List.getElem?_eq_none (by simpa using h1)] at hv; cases hv
    rcases j with _ | _ | _ | _ | j <;> first | rfl | omega)
  rw [hd.2] at this
  exact this
/-- Which rules an address falls under. -/
def mt (v6 : Bool) (hi lo : Int) (r : Rw) : Prop := rightM v6 hi lo = true ∧ kd r.v6 = kd v6 ∧ r.path = bitsU v6 hi lo r.bits.toNat
def FS (rs : List Rw) (v6 : Bool) (hi lo : Int) : Option Rw → Prop
  | none => ∀ r, r ∈ rs → ¬ mt v6 hi lo r
  | some r => r ∈ rs ∧ mt v6 hi lo r ∧ ∀ s, s ∈ rs → mt v6 hi lo s → s.bits.toNat ≤ r.bits.toNat
def noF : Value := .tuple #[.int .i64 2, .agg #[.bool false, .int .u64 0, .int .u64 0, .int .i64 0], .bool false]
def foundV (r : Rw) : Value := .tuple #[.int .i64 r.act, .agg #[.bool r.v6, .int .u64 r.hi, .int .u64 r.lo, .int .i64 r.bits], .bool true]
def findV : Option Rw → Value
  | none => noF
  | some r => foundV r
/-- The last rule on the way. -/
def Last (T : Tr) (k : Nat) (f : Nat → List Int) (n : Nat) : Option (Nat × List Value) → Prop
  | none => ∀ j, j < n → ∀ b o q, T k (f j) ≠ some (b, o, some q)
  | some q => ∃ j, j < n ∧ (∃ b o, T k (f j) = some (b, o, some q)) ∧ ∀ i, j < i → i < n → ∀ b o q, T k (f i) ≠ some (b, o, some q)
theorem Last.zero (T : Tr) (k : Nat) (f : Nat → List Int) : Last T k f 0 none := fun j hj => by omega
theorem Last.step {T : Tr} {k : Nat} {f : Nat → List Int} {n : Nat} {q : Option (Nat × List Value)} (h : Last T k f n q) (hn : ∀ b o q, T k (f n) ≠ some (b, o, some q)) : Last T k f (n + 1) q := by
  cases q with
  | none =>
    intro j hj
    rcases Nat.lt_or_ge j n with h1 | h1
    · exact h j h1
    · have : j = n := by omega
      subst this; exact hn
  | some q =>
    obtain ⟨j, h1, h2, h3⟩ := h
    refine ⟨j, by omega, h2, fun i hi hi2 => ?_⟩
    rcases Nat.lt_or_ge i n with h4 | h4
    · exact h3 i hi h4
    · have : i = n := by omega
      subst this; exact hn
theorem Last.take {T : Tr} {k : Nat} {f : Nat → List Int} {n : Nat} {b o : Nat} {q : Nat × List Value} (hn : T k (f n) = some (b, o, some q)) : Last T k f (n + 1) (some q) :=
  ⟨n, by omega, ⟨b, o, hn⟩, fun i hi hi2 => by omega⟩
end Go.Proofs.YtopadpgpmkkpgaaDoor
set_option maxRecDepth 100000
namespace Go.Proofs.YtopadpgpmkkpgaaDoor
open Go.SX
theorem bitsU_len (v6 : Bool) (hi lo : Int) (n : Nat) : (bitsU v6 hi lo n).length = n := by simp [bitsU]
theorem kd_inj {a b : Bool} (h : kd a = kd b) : a = b := by cases a <;> cases b <;> simp_all [kd]
theorem good_bits {r : Rw} (h : good r) : 0 ≤ r.bits ∧ r.bits ≤ wid r.v6 := by
  have h1 := h.1
  simp only [prefM, wid] at h1 ⊢
  simp_all
theorem none_up {b : Nat} {T : Tr} (hW : Wf b T) {k : Nat} {v6 : Bool} {hi lo : Int} {n : Nat} (h : T k (bitsU v6 hi lo n) = none) (m : Nat) (hm : n ≤ m) : T k (bitsU v6 hi lo m) = none := by
  induction m with
  | zero => have : n = 0 := by omega
            subst this; exact h
  | succ m ih =>
    rcases Nat.lt_or_ge n (m + 1) with h1 | h1
    · have h2 := ih (by omega)
      cases hx : T k (bitsU v6 hi lo (m + 1)) with
      | none => rfl
      | some x =>
        rw [bitsU_succ] at hx
        exact absurd h2 (hW.closed _ _ _ (by rw [hx]; simp))
    · have : n = m + 1 := by omega
      subst this; exact h
theorem Last.fin {b : Nat} {T : Tr} (hW : Wf b T) {rs : List Rw} (hRI : RI T rs) (hg : ∀ r, r ∈ rs → good r) {v6 : Bool} {hi lo : Int} (hr : rightM v6 hi lo = true) {N : Nat} {br : Option (Nat × List Value)} (hL : Last T (kd v6) (bitsU v6 hi lo) N br)
    (hN : T (kd v6) (bitsU v6 hi lo N) = none ∨ (wid v6).toNat < N) {res : Option Rw} (hres : FS rs v6 hi lo res) :
    match br with
    | none => res = none
    | some q => ∃ r b o, res = some r ∧ q.2 = rcells r ∧ ∃ p, T (kd v6) p = some (b, o, some (q.1, rcells r)) := by
  have place : ∀ r, r ∈ rs → mt v6 hi lo r → r.bits.toNat < N ∧ ∃ b o rb, T (kd v6) (bitsU v6 hi lo r.bits.toNat) = some (b, o, some (rb, rcells r)) := by
    rintro r hr ⟨_, e1, e2⟩
    obtain ⟨b', o, rb, h⟩ := hRI.2 r hr
    rw [e1, e2] at h
    refine ⟨?_, b', o, rb, h⟩
    rcases hN with hN | hN
    · rcases Nat.lt_or_ge r.bits.toNat N with h1 | h1
      · exact h1
      · rw [none_up hW hN _ h1] at h
        cases h
    · have := good_bits (hg r hr)
      rw [kd_inj e1] at this
      omega
  cases br with
  | none =>
    cases res with
    | none => rfl
    | some r =>
      obtain ⟨h1, h2, _⟩ := hres
      obtain ⟨h3, b', o, rb, h4⟩ := place r h1 h2
      exact absurd h4 (hL _ h3 _ _ _)
  | some q =>
    obtain ⟨rb, us⟩ := q
    obtain ⟨j, hj, ⟨b', o, hT⟩, hno⟩ := hL
    obtain ⟨r', m1, m2, m3, m4⟩ := hRI.1 _ _ _ _ _ _ hT
    have hlen := congrArg List.length m3
    rw [Rw.path, bitsU_len, bitsU_len] at hlen
    have hm : mt v6 hi lo r' := ⟨hr, m2, by rw [hlen]; exact m3⟩
    cases res with
    | none => exact absurd hm (hres r' m1)
    | some r =>
      obtain ⟨h1, h2, h3⟩ := hres
      obtain ⟨h4, b2, o2, rb2, h5⟩ := place r h1 h2
      have h6 := h3 r' m1 hm
      have h7 : r.bits.toNat = j := by
        rcases Nat.lt_or_ge j r.bits.toNat with h8 | h8
        · exact absurd h5 (hno _ h8 h4 _ _ _)
        · omega
      rw [h7, hT] at h5
      cases h5
      exact ⟨r, b', o, rfl, rfl, _, hT⟩
set_option maxHeartbeats 4000000 in
theorem find_ret (b : Nat) (T : Tr) (rs : List Rw) (v6 : Bool) (hi lo : Int) (w : World) (hG : IG b T w) (hRI : RI T rs) (hg : ∀ r, r ∈ rs → good r) (hh : 0 ≤ hi ∧ hi ≤ 18446744073709551615) (hl : 0 ≤ lo ∧ lo ≤ 18446744073709551615)
    (res : Option Rw) (hres : FS rs v6 hi lo res) : Ret Tryd.prog 11 [.pointer (some ⟨b, 0, none⟩), .agg #[.bool v6, .int .u64 hi, .int .u64 lo]] w (findV res) := by
  have hW : Wf b T := by
    obtain ⟨bl, D, h⟩ := hG.g
    exact h.1
  have hrr : ∀ w, Ret Tryd.prog 15 [.agg #[.bool v6, .int .u64 hi, .int .u64 lo]] w (.bool (rightM v6 hi lo)) := fun w => right_ret _ _ _ w
  refine Ret.of (I := IG b T) (fun w' hm => hG.mod hm) (TTok 0 _) Tryd.func11 (by kernel_rfl) rfl rfl ?_
  cases hr : rightM v6 hi lo with
  | false =>
    rw [hr] at hrr
    have : res = none := by
      cases res with
      | none => rfl
      | some r => have := hres.2.1.1; rw [hr] at this; cases this
    subst this
    repeat' (
      (conv => whnf)
      first
        | (with_reducible first
            | refine TR.seq ?_
            | refine TR.region (TTok _ _) ?_
            | refine TR.drawn (TTok _ _) mixed ?_
            | refine TR.block ?_
            | refine TR.ret ?_
            | refine TR.exit ?_
            | refine TR.skip ?_
            | refine TR.condB rfl ?_
            | refine Br.cond_t ?_
            | refine Br.cond_f ?_
            | refine Br.yes (by first | decide | assumption | (apply decide_eq_true; omega)) ?_
            | refine Br.non (by first | decide | assumption | (apply decide_eq_false; omega)) ?_
            | refine Br.cond_ff ?_
            | refine Br.eqT (by omega) ?_
            | refine Br.eqF (by omega) ?_
            | refine Br.neT (by omega) ?_
            | refine Br.neF (by omega) ?_
            | refine Ld.mk' _ rfl ?_
            | refine Need.mk (by first | decide | omega | kernel_rfl) ?_
            | refine Nm.i64 (by omega) ?_
            | refine Nm.u64 (by omega) ?_
            | refine Nm.u8 (by omega) ?_
            | refine x_ret (f := 15) rfl rfl (fun w _ => hrr w) ?_)
        | refine Br.non rfl ?_
        | refine Br.yes rfl ?_
        | (refine x_exq (TTok _ _) ?_; (conv => whnf); fail_if_success (guard_target =ₛ False)))
    all_goals (conv => whnf)
    all_goals rfl
  | true =>
    rw [hr] at hrr
    have hw : 32 ≤ wid v6 ∧ wid v6 ≤ 128 := by cases v6 <;> simp [wid]
    repeat' (
      (conv => whnf)
      first
        | (with_reducible first
            | refine TR.seq ?_
            | refine TR.region (TTok _ _) ?_
            | refine TR.drawn (TTok _ _) mixed ?_
            | refine TR.block ?_
            | refine TR.ret ?_
            | refine TR.exit ?_
            | refine TR.skip ?_
            | refine TR.condB rfl ?_
            | refine Br.cond_t ?_
            | refine Br.cond_f ?_
            | refine Br.yes (by first | decide | assumption | (apply decide_eq_true; omega)) ?_
            | refine Br.non (by first | decide | assumption | (apply decide_eq_false; omega)) ?_
            | refine Br.cond_ff ?_
            | refine Br.eqT (by omega) ?_
            | refine Br.eqF (by omega) ?_
            | refine Br.neT (by omega) ?_
            | refine Br.neF (by omega) ?_
            | refine Ld.mk' _ rfl ?_
            | refine Need.mk (by first | decide | omega | kernel_rfl) ?_
            | refine Nm.i64 (by omega) ?_
            | refine Nm.u64 (by omega) ?_
            | refine Nm.u8 (by omega) ?_
            | refine x_ret (f := 15) rfl rfl (fun w _ => hrr w) ?_
            | refine x_ret (f := 20) rfl rfl (fun w _ => tree_ret _ _ _ _ w) ?_
            | refine x_ret (f := 21) rfl rfl (fun w _ => path_ret _ _ _ w) ?_)
        | refine Br.non rfl ?_
        | refine Br.yes rfl ?_
        | (refine x_exq (TTok _ _) ?_; (conv => whnf); fail_if_success (guard_target =ₛ False)))
    all_goals (conv => whnf)
    obtain ⟨r0, hr0⟩ : ∃ r, T (kd v6) [] = some (b, if v6 then 3 else 0, r) := by
      cases v6
      · exact hW.r0
      · exact hW.r1
    refine TR.loopH (fun x : Int × Option Pl × Option (Nat × List Value) => [(8, .v (rptr x.2.2)), (9, .v (ptrOf x.2.1)), (10, .v (.int .i64 x.1))]) (fun _ => [])
      (fun x => 0 ≤ x.1 ∧ x.1 ≤ wid v6 ∧ T (kd v6) (bitsU v6 hi lo x.1.toNat) = x.2.1 ∧ Last T (kd v6) (bitsU v6 hi lo) x.1.toNat x.2.2) (fun x => (wid v6 - x.1 + 1).toNat) (0, some (b, if v6 then 3 else 0, r0), none) ⟨by simp, by dsimp only; omega, hr0, Last.zero _ _ _⟩ ?_ ?_
    · repeat' ((conv => whnf); first | exact trivial | exact Fgt.mk rfl rfl rfl | refine And.intro rfl ?_ | refine And.intro ?_ ?_)
    · rintro ⟨k, at', br⟩ ⟨k0, k1, hat, hL⟩
      dsimp only at k0 k1 hat hL ⊢
      rcases at' with _ | ⟨pb, po, pr⟩
      · have hfin := hL.fin hW hRI hg hr (.inl hat) hres
        rcases br with _ | ⟨qb, us⟩
        · simp only at hfin
          subst hfin
          repeat' (
            (conv => whnf)
            first
              | (with_reducible first
                  | refine TR.seq ?_
                  | refine TR.region (TTok _ _) ?_
                  | refine TR.drawn (TTok _ _) mixed ?_
                  | refine TR.block ?_
                  | refine TR.ret ?_
                  | refine TR.exit ?_
                  | refine TR.skip ?_
                  | refine TR.condB rfl ?_
                  | refine Br.cond_t ?_
                  | refine Br.cond_f ?_
                  | refine Br.yes (by first | decide | assumption | (apply decide_eq_true; omega)) ?_
                  | refine Br.non (by first | decide | assumption | (apply decide_eq_false; omega)) ?_
                  | refine Br.cond_ff ?_
                  | refine Br.eqT (by omega) ?_
                  | refine Br.eqF (by omega) ?_
                  | refine Br.neT (by omega) ?_
                  | refine Br.neF (by omega) ?_
                  | refine Ld.mk' _ rfl ?_
                  | refine Need.mk (by first | decide | omega | kernel_rfl) ?_
                  | refine Nm.i64 (by omega) ?_
                  | refine Nm.u64 (by omega) ?_
                  | refine Nm.u8 (by omega) ?_)
              | refine Br.non rfl ?_
              | refine Br.yes rfl ?_
              | (refine x_exq (TTok _ _) ?_; (conv => whnf); fail_if_success (guard_target =ₛ False)))
          all_goals (conv => whnf)
          all_goals rfl
        · obtain ⟨r, b2, o2, rfl, e2, p2, hp2⟩ := hfin
          simp only at e2 hp2
          subst e2
          repeat' (
            (conv => whnf)
            first
              | (with_reducible first
                  | refine TR.seq ?_
                  | refine TR.region (TTok _ _) ?_
                  | refine TR.drawn (TTok _ _) mixed ?_
                  | refine TR.block ?_
                  | refine TR.ret ?_
                  | refine TR.exit ?_
                  | refine TR.skip ?_
                  | refine TR.condB rfl ?_
                  | refine Br.cond_t ?_
                  | refine Br.cond_f ?_
                  | refine Br.yes (by first | decide | assumption | (apply decide_eq_true; omega)) ?_
                  | refine Br.non (by first | decide | assumption | (apply decide_eq_false; omega)) ?_
                  | refine Br.cond_ff ?_
                  | refine Br.eqT (by omega) ?_
                  | refine Br.eqF (by omega) ?_
                  | refine Br.neT (by omega) ?_
                  | refine Br.neF (by omega) ?_
                  | refine Ld.mk' _ rfl ?_
                  | refine Need.mk (by first | decide | omega | kernel_rfl) ?_
                  | refine Nm.i64 (by omega) ?_
                  | refine Nm.u64 (by omega) ?_
                  | refine Nm.u8 (by omega) ?_)
              | refine Br.non rfl ?_
              | refine Br.yes rfl ?_
              | refine x_load_ext rfl rfl (fun w hw => hw.act hp2) ?_
              | refine x_load_ext rfl rfl (fun w hw => hw.pref hp2) ?_
              | (refine x_exq (TTok _ _) ?_; (conv => whnf); fail_if_success (guard_target =ₛ False)))
          all_goals (conv => whnf)
          all_goals rfl
      · have ho := hW.off _ _ _ _ _ hat
        have hL' : ∃ br', (pr = none → br' = br) ∧ (∀ q, pr = some q → br' = some q) ∧ Last T (kd v6) (bitsU v6 hi lo) (k.toNat + 1) br' := by
          cases pr with
          | none => exact ⟨br, fun _ => rfl, (fun q h => by cases h), hL.step (fun b o q h => by rw [hat] at h; cases h)⟩
          | some q => exact ⟨some q, (fun h => by cases h), (fun q' h => by cases h; rfl), Last.take hat⟩
        obtain ⟨br', e1, e2, hL2⟩ := hL'
        by_cases hkw : k = wid v6
        · have hfin := hL2.fin hW hRI hg hr (.inr (by omega)) hres
          rcases pr with _ | ⟨qb, us⟩
          · have e1 := e1 rfl
            subst e1
            rcases br' with _ | ⟨qb, us⟩
            · simp only at hfin
              subst hfin
              rcases ho with rfl | rfl
              all_goals repeat' (
                (conv => whnf)
                first
                  | (with_reducible first
                      | refine TR.seq ?_
                      | refine TR.region (TTok _ _) ?_
                      | refine TR.drawn (TTok _ _) mixed ?_
                      | refine TR.block ?_
                      | refine TR.ret ?_
                      | refine TR.exit ?_
                      | refine TR.skip ?_
                      | refine TR.condB rfl ?_
                      | refine Br.cond_t ?_
                      | refine Br.cond_f ?_
                      | refine Br.yes (by first | decide | assumption | (apply decide_eq_true; omega)) ?_
                      | refine Br.non (by first | decide | assumption | (apply decide_eq_false; omega)) ?_
                      | refine Br.cond_ff ?_
                      | refine Br.eqT (by omega) ?_
                      | refine Br.eqF (by omega) ?_
                      | refine Br.neT (by omega) ?_
                      | refine Br.neF (by omega) ?_
                      | refine Ld.mk' _ rfl ?_
                      | refine Need.mk (by first | decide | omega | kernel_rfl) ?_
                      | refine Nm.i64 (by omega) ?_
                      | refine Nm.u64 (by omega) ?_
                      | refine Nm.u8 (by omega) ?_)
                  | refine Br.non rfl ?_
                  | refine Br.yes rfl ?_
                  | refine x_load_ext rfl rfl (fun w hw => hw.c2 hat) ?_
                  | (refine x_exq (TTok _ _) ?_; (conv => whnf); fail_if_success (guard_target =ₛ False)))
              all_goals (conv => whnf)
              all_goals rfl
            · obtain ⟨r, b2, o2, rfl, e3, p2, hp2⟩ := hfin
              simp only at e3 hp2
              subst e3
              rcases ho with rfl | rfl
              all_goals repeat' (
                (conv => whnf)
                first
                  | (with_reducible first
                      | refine TR.seq ?_
                      | refine TR.region (TTok _ _) ?_
                      | refine TR.drawn (TTok _ _) mixed ?_
                      | refine TR.block ?_
                      | refine TR.ret ?_
                      | refine TR.exit ?_
                      | refine TR.skip ?_
                      | refine TR.condB rfl ?_
                      | refine Br.cond_t ?_
                      | refine Br.cond_f ?_
                      | refine Br.yes (by first | decide | assumption | (apply decide_eq_true; omega)) ?_
                      | refine Br.non (by first | decide | assumption | (apply decide_eq_false; omega)) ?_
                      | refine Br.cond_ff ?_
                      | refine Br.eqT (by omega) ?_
                      | refine Br.eqF (by omega) ?_
                      | refine Br.neT (by omega) ?_
                      | refine Br.neF (by omega) ?_
                      | refine Ld.mk' _ rfl ?_
                      | refine Need.mk (by first | decide | omega | kernel_rfl) ?_
                      | refine Nm.i64 (by omega) ?_
                      | refine Nm.u64 (by omega) ?_
                      | refine Nm.u8 (by omega) ?_)
                  | refine Br.non rfl ?_
                  | refine Br.yes rfl ?_
                  | refine x_load_ext rfl rfl (fun w hw => hw.c2 hat) ?_
                  | refine x_load_ext rfl rfl (fun w hw => hw.act hp2) ?_
                  | refine x_load_ext rfl rfl (fun w hw => hw.pref hp2) ?_
                  | (refine x_exq (TTok _ _) ?_; (conv => whnf); fail_if_success (guard_target =ₛ False)))
              all_goals (conv => whnf)
              all_goals rfl
          · have e2 := e2 _ rfl
            subst e2
            obtain ⟨r, b2, o2, rfl, e3, p2, hp2⟩ := hfin
            simp only at e3 hp2
            subst e3
            rcases ho with rfl | rfl
            all_goals repeat' (
              (conv => whnf)
              first
                | (with_reducible first
                    | refine TR.seq ?_
                    | refine TR.region (TTok _ _) ?_
                    | refine TR.drawn (TTok _ _) mixed ?_
                    | refine TR.block ?_
                    | refine TR.ret ?_
                    | refine TR.exit ?_
                    | refine TR.skip ?_
                    | refine TR.condB rfl ?_
                    | refine Br.cond_t ?_
                    | refine Br.cond_f ?_
                    | refine Br.yes (by first | decide | assumption | (apply decide_eq_true; omega)) ?_
                    | refine Br.non (by first | decide | assumption | (apply decide_eq_false; omega)) ?_
                    | refine Br.cond_ff ?_
                    | refine Br.eqT (by omega) ?_
                    | refine Br.eqF (by omega) ?_
                    | refine Br.neT (by omega) ?_
                    | refine Br.neF (by omega) ?_
                    | refine Ld.mk' _ rfl ?_
                    | refine Need.mk (by first | decide | omega | kernel_rfl) ?_
                    | refine Nm.i64 (by omega) ?_
                    | refine Nm.u64 (by omega) ?_
                    | refine Nm.u8 (by omega) ?_)
                | refine Br.non rfl ?_
                | refine Br.yes rfl ?_
                | refine x_load_ext rfl rfl (fun w hw => hw.c2 hat) ?_
                | refine x_load_ext rfl rfl (fun w hw => hw.act hp2) ?_
                | refine x_load_ext rfl rfl (fun w hw => hw.pref hp2) ?_
                | (refine x_exq (TTok _ _) ?_; (conv => whnf); fail_if_success (guard_target =ₛ False)))
            all_goals (conv => whnf)
            all_goals rfl
        · have hbr : ∀ w, Ret Tryd.prog 22 [.agg #[.int .u64 (ph v6 hi lo), .int .u64 (pl v6 lo), .int .i64 (wid v6)], .int .i64 k] w (.int .i64 (bitM (ph v6 hi lo) (pl v6 lo) k)) := fun w => bit_ret _ _ _ _ w (by omega) (by omega) (ph_range _ _ _ hh) (pl_range _ _ hl)
          have hsucc := bitsU_succ v6 hi lo k.toNat
          rw [show ((k.toNat : Nat) : Int) = k by omega] at hsucc
          have hks : (k + 1).toNat = k.toNat + 1 := by omega
          rw [← hks] at hsucc hL2
          have h01 := bitM01 (ph v6 hi lo) (pl v6 lo) k
          generalize bitM (ph v6 hi lo) (pl v6 lo) k = β at hbr hsucc h01
          obtain ⟨ch, hch⟩ : ∃ c, T (kd v6) (bitsU v6 hi lo (k + 1).toNat) = c := ⟨_, rfl⟩
          have hch0 := hch
          rw [hsucc] at hch
          generalize bitsU v6 hi lo k.toNat = p at hat hch hsucc
          rcases pr with _ | ⟨qb, us⟩
          · have e1 := e1 rfl
            subst e1
            rcases ho with rfl | rfl <;> rcases h01 with rfl | rfl
            all_goals repeat' (
              (conv => whnf)
              first
                | (with_reducible first
                    | refine TR.seq ?_
                    | refine TR.region (TTok _ _) ?_
                    | refine TR.drawn (TTok _ _) mixed ?_
                    | refine TR.block ?_
                    | refine TR.ret ?_
                    | refine TR.exit ?_
                    | refine TR.skip ?_
                    | refine TR.condB rfl ?_
                    | refine Br.cond_t ?_
                    | refine Br.cond_f ?_
                    | refine Br.yes (by first | decide | assumption | (apply decide_eq_true; omega)) ?_
                    | refine Br.non (by first | decide | assumption | (apply decide_eq_false; omega)) ?_
                    | refine Br.cond_ff ?_
                    | refine Br.eqT (by omega) ?_
                    | refine Br.eqF (by omega) ?_
                    | refine Br.neT (by omega) ?_
                    | refine Br.neF (by omega) ?_
                    | refine Ld.mk' _ rfl ?_
                    | refine Need.mk (by first | decide | omega | kernel_rfl) ?_
                    | refine Nm.i64 (by omega) ?_
                    | refine Nm.u64 (by omega) ?_
                    | refine Nm.u8 (by omega) ?_
                    | refine x_ret (f := 22) rfl rfl (fun w _ => hbr w) ?_)
                | refine Br.non rfl ?_
                | refine Br.yes rfl ?_
                | refine x_load_ext rfl rfl (fun w hw => hw.c2 hat) ?_
                | refine x_load_ext rfl rfl (fun w hw => hw.c0 hat hch) ?_
                | refine x_load_ext rfl rfl (fun w hw => hw.c1 hat hch) ?_
                | (refine x_exq (TTok _ _) ?_; (conv => whnf); fail_if_success (guard_target =ₛ False)))
            all_goals (conv => whnf)
            all_goals refine ⟨(k + 1, ch, br'), ⟨by dsimp only; omega, by dsimp only; omega, hch0, hL2⟩, by dsimp only; omega, ?_⟩
            all_goals repeat' ((conv => whnf); first | exact trivial | exact Fgt.mk rfl rfl rfl | refine And.intro rfl ?_ | refine And.intro ?_ ?_)
          · have e2 := e2 _ rfl
            subst e2
            rcases ho with rfl | rfl <;> rcases h01 with rfl | rfl
            all_goals repeat' (
              (conv => whnf)
              first
                | (with_reducible first
                    | refine TR.seq ?_
                    | refine TR.region (TTok _ _) ?_
                    | refine TR.drawn (TTok _ _) mixed ?_
                    | refine TR.block ?_
                    | refine TR.ret ?_
                    | refine TR.exit ?_
                    | refine TR.skip ?_
                    | refine TR.condB rfl ?_
                    | refine Br.cond_t ?_
                    | refine Br.cond_f ?_
                    | refine Br.yes (by first | decide | assumption | (apply decide_eq_true; omega)) ?_
                    | refine Br.non (by first | decide | assumption | (apply decide_eq_false; omega)) ?_
                    | refine Br.cond_ff ?_
                    | refine Br.eqT (by omega) ?_
                    | refine Br.eqF (by omega) ?_
                    | refine Br.neT (by omega) ?_
                    | refine Br.neF (by omega) ?_
                    | refine Ld.mk' _ rfl ?_
                    | refine Need.mk (by first | decide | omega | kernel_rfl) ?_
                    | refine Nm.i64 (by omega) ?_
                    | refine Nm.u64 (by omega) ?_
                    | refine Nm.u8 (by omega) ?_
                    | refine x_ret (f := 22) rfl rfl (fun w _ => hbr w) ?_)
                | refine Br.non rfl ?_
                | refine Br.yes rfl ?_
                | refine x_load_ext rfl rfl (fun w hw => hw.c2 hat) ?_
                | refine x_load_ext rfl rfl (fun w hw => hw.c0 hat hch) ?_
                | refine x_load_ext rfl rfl (fun w hw => hw.c1 hat hch) ?_
                | (refine x_exq (TTok _ _) ?_; (conv => whnf); fail_if_success (guard_target =ₛ False)))
            all_goals (conv => whnf)
            all_goals refine ⟨(k + 1, ch, some (qb, us)), ⟨by dsimp only; omega, by dsimp only; omega, hch0, hL2⟩, by dsimp only; omega, ?_⟩
            all_goals repeat' ((conv => whnf); first | exact trivial | exact Fgt.mk rfl rfl rfl | refine And.intro rfl ?_ | refine And.intro ?_ ?_)
end Go.Proofs.YtopadpgpmkkpgaaDoor
set_option maxRecDepth 100000
namespace Go.Proofs.YtopadpgpmkkpgaaDoor
open Go.SX
theorem okR_nil : okR [] := ⟨fun r hr => by simp at hr, by simp⟩
theorem new_nil (ad : Option Addr) (cap : Nat) (w : World) : RetQ Tryd.prog 9 [.slice ad 0 cap] w (QN w []) := by
  refine RetQ.of (I := fun _ => True) (fun w' hm => trivial) (TTok 0 _) Tryd.func9 (by kernel_rfl) rfl rfl ?_
  repeat' (
    (conv => whnf)
    first
      | (with_reducible first
          | (refine TR.open_own (d := 13) (us := [.pointer none, .pointer none, .pointer none, .pointer none, .pointer none, .pointer none]) rfl (Nat.zero_le _) (fun b => TR.ex_tab (d := 13) (α := Unit) (G := fun _ => GT b (T0 b)) rfl rfl (fun bl D w h => ⟨(), T0_GT b bl D w h⟩) (fun _ => GT_stab b _) (fun _ => ?_)))
          | refine TR.seq ?_
          | refine TR.region (TTok _ _) ?_
          | refine TR.drawn (TTok _ _) mixed ?_
          | refine TR.block ?_
          | refine TR.ret ?_
          | refine TR.exit ?_
          | refine TR.skip ?_
          | refine TR.condB rfl ?_
          | refine Ld.mk' _ rfl ?_
          | refine Need.mk (by first | decide | omega | kernel_rfl) ?_
          | refine Nm.i64 (by omega) ?_
          | refine Nm.u64 (by omega) ?_
          | refine Nm.u8 (by omega) ?_)
      | refine x_exq (TTok _ _) ?_)
  all_goals (conv => whnf)
  refine TR.loopH (fun _ : Unit => [(16, .v (.int .i64 0))]) (fun _ => []) (fun _ => True) (fun _ => 0) () trivial ?_ ?_
  · repeat' ((conv => whnf); first | exact trivial | exact Fgt.mk rfl rfl rfl | refine And.intro rfl ?_ | refine And.intro ?_ ?_)
  · rintro _ _
    repeat' (
      (conv => whnf)
      first
        | (with_reducible first
            | refine TR.seq ?_
            | refine TR.region (TTok _ _) ?_
            | refine TR.drawn (TTok _ _) mixed ?_
            | refine TR.block ?_
            | refine TR.ret ?_
            | refine TR.exit ?_
            | refine TR.skip ?_
            | refine TR.condB rfl ?_
            | refine Br.cond_t ?_
            | refine Br.cond_f ?_
            | refine Br.yes (by first | decide | assumption | (apply decide_eq_true; omega)) ?_
            | refine Br.non (by first | decide | assumption | (apply decide_eq_false; omega)) ?_
            | refine Br.cond_ff ?_
            | refine Br.eqT (by omega) ?_
            | refine Br.eqF (by omega) ?_
            | refine Br.neT (by omega) ?_
            | refine Br.neF (by omega) ?_
            | refine Ld.mk' _ rfl ?_
            | refine Need.mk (by first | decide | omega | kernel_rfl) ?_
            | refine Nm.i64 (by omega) ?_
            | refine Nm.u64 (by omega) ?_
            | refine Nm.u8 (by omega) ?_)
        | refine x_exq (TTok _ _) ?_)
    all_goals (conv => whnf)
    all_goals exact Fin.tab (c := 13) rfl rfl rfl fun bl D w' hG hD => .inl ⟨okR_nil, b, D, T0 b, rfl, hG.2.1 ▸ hG, RI_T0 b, hD⟩
theorem flat_get (rs : List Rw) (i : Nat) (r : Rw) (h : rs[i]? = some r) (j : Nat) (u : Value) (hu : (rcells r)[j]? = some u) : (rs.flatMap rcells)[i * 5 + j]? = some u := by
  have hj : j < 5 := by
    rcases Nat.lt_or_ge j 5 with h1 | h1
    · exact h1
    · rw [List.getElem?_eq_none (by simpa [rcells] using h1)] at hu; cases hu
  induction rs generalizing i with
  | nil => simp at h
  | cons x rs ih =>
    rw [List.flatMap_cons]
    cases i with
    | zero =>
      simp only [List.getElem?_cons_zero, Option.some.injEq] at h
      subst h
      rw [List.getElem?_append_left (by simp [rcells]; omega)]
      simpa using hu
    | succ i =>
      rw [List.getElem?_append_right (by simp [rcells]; omega)]
      have : (i + 1) * 5 + j - (rcells x).length = i * 5 + j := by simp [rcells]; omega
      rw [this]
      exact ih i (by simpa using h)
theorem cell_spot {w : World} {a : Addr} {u : Value} (h : w.cell? a = some u) : a.spot = none := by
  obtain ⟨b, o, s⟩ := a
  cases s with
  | none => rfl
  | some s =>
    unfold World.cell? at h
    split at h <;> simp at h
theorem new_any (rs : List Rw) (w : World) (v : Value) (h : SlAt w v rs.length (rs.flatMap rcells)) (hf : ∀ r, r ∈ rs → r.fits) (hn : rs.length < 4294967296) : RetQ Tryd.prog 9 [v] w (QN w rs) := by
  rcases h with ⟨h0, a, c, rfl⟩ | ⟨ad, c, rfl, hc⟩
  · have : rs = [] := List.eq_nil_of_length_eq_zero h0
    subst this
    exact new_nil a c w
  · cases rs with
    | nil => exact new_nil _ c w
    | cons r rs =>
      have h1 := hc 0 _ (flat_get (r :: rs) 0 r rfl 0 _ rfl)
      have hs := cell_spot h1
      obtain ⟨b, o, s⟩ := ad
      have hs : s = none := by
        cases s with
        | none => rfl
        | some s => simp [Addr.add] at hs
      subst hs
      refine new_ret b o c (r :: rs) w ⟨fun i x hx j u hu => ?_⟩ hf hn
      have := hc _ _ (flat_get _ i x hx j u hu)
      rw [add_none, ← Nat.add_assoc] at this
      exact this
theorem FS_ex (rs : List Rw) (v6 : Bool) (hi lo : Int) : ∃ res, FS rs v6 hi lo res := by
  classical
  induction rs with
  | nil => exact ⟨none, fun r hr => by simp at hr⟩
  | cons x rs ih =>
    obtain ⟨res, h⟩ := ih
    by_cases hx : mt v6 hi lo x
    · cases res with
      | none => exact ⟨some x, by simp, hx, fun s hs hm => by
          rcases List.mem_cons.1 hs with rfl | hs
          · exact Nat.le_refl _
          · exact absurd hm (h s hs)⟩
      | some r =>
        obtain ⟨h1, h2, h3⟩ := h
        by_cases hb : r.bits.toNat ≤ x.bits.toNat
        · exact ⟨some x, by simp, hx, fun s hs hm => by
            rcases List.mem_cons.1 hs with rfl | hs
            · exact Nat.le_refl _
            · exact Nat.le_trans (h3 s hs hm) hb⟩
        · exact ⟨some r, by simp [h1], h2, fun s hs hm => by
            rcases List.mem_cons.1 hs with rfl | hs
            · omega
            · exact h3 s hs hm⟩
    · cases res with
      | none => exact ⟨none, fun s hs => by
          rcases List.mem_cons.1 hs with rfl | hs
          · exact hx
          · exact h s hs⟩
      | some r =>
        obtain ⟨h1, h2, h3⟩ := h
        exact ⟨some r, by simp [h1], h2, fun s hs hm => by
            rcases List.mem_cons.1 hs with rfl | hs
            · exact absurd hm hx
            · exact h3 s hs hm⟩
end Go.Proofs.YtopadpgpmkkpgaaDoor
set_option maxRecDepth 100000
namespace Go.Proofs.YtopadpgpmkkpgaaDoor
open Go.SX
theorem pref_law (v6 : Bool) (hi lo bits : Int) (hh : 0 ≤ hi ∧ hi ≤ 18446744073709551615) (hl : 0 ≤ lo ∧ lo ≤ 18446744073709551615) : prefM v6 hi lo bits = true ↔ rpref v6 hi lo bits := by
  cases v6
  · exact pref_law4 hi lo bits hl
  · exact pref_law6 hi lo bits hh hl
theorem IR.pref {rb ro : Nat} {rs : List Rw} {w : World} (h : IR rb ro rs w) {i : Nat} {r : Rw} (hr : rs[i]? = some r) : (loadVar 34 ⟨rb, ro + i * 5 + 0, none⟩).run Tryd.prog w = .ok (.agg #[.bool r.v6, .int .u64 r.hi, .int .u64 r.lo, .int .i64 r.bits]) w := by
  obtain ⟨y, hy, hd⟩ : ∃ y, getO TT 34 = some y ∧ y.size = 4 ∧ aggd y = true := ⟨_, rfl, rfl, rfl⟩
  have := ((TTok 0 (fun _ => True)) 34 y hy).run_load (w := w) ⟨rb, ro + i * 5 + 0, none⟩ [.bool r.v6, .int .u64 r.hi, .int .u64 r.lo, .int .i64 r.bits] (by rw [hd.1]; rfl) (fun hz => by rw [hd.2] at hz; cases hz) (fun j v hv => by
    rw [add_none]
    refine h.cell i r hr j v ?_
    rw [← hv]
    have hj : j < 4 := by
      rcases Nat.lt_or_ge j 4 with h1 | h1
      · exact h1
      · rw [List.getElem?_eq_none (by simpa using h1)] at hv; cases hv
    rcases j with _ | _ | _ | _ | j <;> first | rfl | omega)
  rw [hd.2] at this
  exact this
theorem IR.act {rb ro : Nat} {rs : List Rw} {w : World} (h : IR rb ro rs w) {i : Nat} {r : Rw} (hr : rs[i]? = some r) : (loadVar 3 ⟨rb, ro + i * 5 + 4, none⟩).run Tryd.prog w = .ok (.int .i64 r.act) w := by
  have hc := h.cell i r hr 4 _ rfl
  obtain ⟨y, hy, hd⟩ : ∃ y, getO TT 3 = some y ∧ y.size = 1 ∧ aggd y = false := ⟨_, rfl, rfl, rfl⟩
  have := ((TTok 0 (fun _ => True)) 3 y hy).run_load (w := w) ⟨rb, ro + i * 5 + 4, none⟩ [.int .i64 r.act] (by rw [hd.1]; rfl) (fun _ => hd.1) (fun j v hv => by
    rw [add_none]
    cases j with
    | zero => cases hv; exact hc
    | succ j => simp at hv)
  rw [hd.2] at this
  exact this
def sameP (r s : Rw) : Prop := r.v6 = s.v6 ∧ r.hi = s.hi ∧ r.lo = s.lo ∧ r.bits = s.bits
/-- The document's words for right rules. -/
def okP (rs : List Rw) : Prop := (∀ r, r ∈ rs → good r) ∧ rs.Pairwise fun r s => ¬ sameP r s
set_option maxHeartbeats 4000000 in
theorem rules_ret (rb ro cap : Nat) (rs : List Rw) (w : World) (hI : IR rb ro rs w) (hf : ∀ r, r ∈ rs → r.fits) (hn : rs.length < 4294967296) (ok : Bool) (hok : ok = true ↔ okP rs) :
    Ret Tryd.prog 10 [.slice (some ⟨rb, ro, none⟩) rs.length cap] w (.bool ok) := by
  have bad : ¬ okP rs → ok = false := fun h => by
    cases ok with
    | false => rfl
    | true => exact absurd (hok.1 rfl) h
  refine Ret.of (I := IR rb ro rs) (fun w' hm => hI.mod hm) (TTok 0 _) Tryd.func10 (by kernel_rfl) rfl rfl ?_
  repeat' (
    (conv => whnf)
    first
      | (with_reducible first
          | refine TR.seq ?_
          | refine TR.region (TTok _ _) ?_
          | refine TR.drawn (TTok _ _) mixed ?_
          | refine TR.block ?_
          | refine TR.ret ?_
          | refine TR.exit ?_
          | refine TR.skip ?_
          | refine TR.condB rfl ?_
          | refine Ld.mk' _ rfl ?_
          | refine Need.mk (by first | decide | omega | kernel_rfl) ?_
          | refine Nm.i64 (by omega) ?_
          | refine Nm.u64 (by omega) ?_
          | refine Nm.u8 (by omega) ?_)
      | refine x_exq (TTok _ _) ?_)
  all_goals (conv => whnf)
  refine TR.loopH (fun i : Int => [(3, .v (.int .i64 i))]) (fun _ => []) (fun i => 0 ≤ i ∧ i ≤ rs.length ∧ okP (rs.take i.toNat)) (fun i => (rs.length - i).toNat) 0 ⟨by simp, by simp, fun r hr => by simp at hr, by simp⟩ ?_ ?_
  · repeat' ((conv => whnf); first | exact trivial | exact Fgt.mk rfl rfl rfl | refine And.intro rfl ?_ | refine And.intro ?_ ?_)
  · rintro i ⟨i0, i1, hP⟩
    by_cases hi : i < rs.length
    · obtain ⟨r, hr⟩ : ∃ r, rs[i.toNat]? = some r := ⟨rs[i.toNat], by rw [List.getElem?_eq_getElem]⟩
      have hfit := hf r (List.mem_of_getElem? hr)
      have hpr : ∀ w, Ret Tryd.prog 23 [.agg #[.bool r.v6, .int .u64 r.hi, .int .u64 r.lo, .int .i64 r.bits]] w (.bool (prefM r.v6 r.hi r.lo r.bits)) := fun w => rpref_ret _ _ _ _ w hfit.lo0 _ (pref_law _ _ _ _ ⟨hfit.hi0, hfit.hi1⟩ ⟨hfit.lo0, hfit.lo1⟩)
      obtain ⟨v6, rhi, rlo, bits, act⟩ := r
      have hl1 : ∀ w, IR rb ro rs w → (loadVar 34 ⟨rb, ro + i.toNat * 5 + 0, none⟩).run Tryd.prog w = .ok (.agg #[.bool v6, .int .u64 rhi, .int .u64 rlo, .int .i64 bits]) w := fun w hw => hw.pref hr
      have hl2 : ∀ w, IR rb ro rs w → (loadVar 3 ⟨rb, ro + i.toNat * 5 + 4, none⟩).run Tryd.prog w = .ok (.int .i64 act) w := fun w hw => hw.act hr
      simp only at hpr
      by_cases hg : good ⟨v6, rhi, rlo, bits, act⟩
      · obtain ⟨hg1, hg2, hg3⟩ := id hg
        simp only at hg1 hg2 hg3
        rw [hg1] at hpr
        repeat' (
          (conv => whnf)
          first
            | (with_reducible first
                | refine TR.seq ?_
                | refine TR.region (TTok _ _) ?_
                | refine TR.drawn (TTok _ _) mixed ?_
                | refine TR.block ?_
                | refine TR.ret ?_
                | refine TR.exit ?_
                | refine TR.skip ?_
                | refine TR.condB rfl ?_
                | refine Br.cond_t ?_
                | refine Br.cond_f ?_
                | refine Br.yes (by first | decide | assumption | (apply decide_eq_true; omega)) ?_
                | refine Br.non (by first | decide | assumption | (apply decide_eq_false; omega)) ?_
                | refine Br.cond_ff ?_
                | refine Br.eqT (by omega) ?_
                | refine Br.eqF (by omega) ?_
                | refine Br.neT (by omega) ?_
                | refine Br.neF (by omega) ?_
                | refine Ld.mk' _ rfl ?_
                | refine Need.mk (by first | decide | omega | kernel_rfl) ?_
                | refine Nm.i64 (by omega) ?_
                | refine Nm.u64 (by omega) ?_
                | refine Nm.u8 (by omega) ?_
                | refine x_ret (f := 23) rfl rfl (fun w _ => hpr w) ?_)
            | refine x_load_ext rfl rfl (fun w hw => hl1 w hw) ?_
            | refine x_load_ext rfl rfl (fun w hw => hl2 w hw) ?_
            | (refine x_exq (TTok _ _) ?_; (conv => whnf); fail_if_success (guard_target =ₛ False)))
        all_goals (conv => whnf)
        refine TR.loopH (fun j : Int => [(5, .v (.int .i64 j))]) (fun _ => []) (fun j => 0 ≤ j ∧ j ≤ i ∧ ∀ s, s ∈ rs.take j.toNat → ¬ sameP s ⟨v6, rhi, rlo, bits, act⟩) (fun j => (i - j).toNat) 0 ⟨by simp, by omega, fun r hr => by simp at hr⟩ ?_ ?_
        · repeat' ((conv => whnf); first | exact trivial | exact Fgt.mk rfl rfl rfl | refine And.intro rfl ?_ | refine And.intro ?_ ?_)
        · rintro j ⟨j0, j1, hno⟩
          by_cases hj : j < i
          · obtain ⟨s, hs⟩ : ∃ s, rs[j.toNat]? = some s := ⟨rs[j.toNat], by rw [List.getElem?_eq_getElem]⟩
            obtain ⟨sv6, shi, slo, sbits, sact⟩ := s
            have hl3 : ∀ w, IR rb ro rs w → (loadVar 34 ⟨rb, ro + j.toNat * 5 + 0, none⟩).run Tryd.prog w = .ok (.agg #[.bool sv6, .int .u64 shi, .int .u64 slo, .int .i64 sbits]) w := fun w hw => hw.pref hs
            by_cases hsm : sameP ⟨sv6, shi, slo, sbits, sact⟩ ⟨v6, rhi, rlo, bits, act⟩
            · have hq : eqR BinOp.eql (sv6 == v6 && (shi == rhi && (slo == rlo && true)) && (sbits == bits && true)) = true := by
                obtain ⟨a1, a2, a3, a4⟩ := hsm
                simp only at a1 a2 a3 a4
                simp [eqR, a1, a2, a3, a4]
              have hko : ok = false := bad fun h => by
                obtain ⟨k1, k2⟩ := List.getElem?_eq_some_iff.1 hr
                obtain ⟨k3, k4⟩ := List.getElem?_eq_some_iff.1 hs
                have := List.pairwise_iff_getElem.1 h.2 j.toNat i.toNat k3 k1 (by omega)
                rw [k4, k2] at this
                exact this hsm
              subst hko
              repeat' (
                (conv => whnf)
                first
                  | (with_reducible first
                      | refine TR.seq ?_
                      | refine TR.region (TTok _ _) ?_
                      | refine TR.drawn (TTok _ _) mixed ?_
                      | refine TR.block ?_
                      | refine TR.ret ?_
                      | refine TR.exit ?_
                      | refine TR.skip ?_
                      | refine TR.condB rfl ?_
                      | refine Br.cond_t ?_
                      | refine Br.cond_f ?_
                      | refine Br.yes (by first | decide | assumption | (apply decide_eq_true; omega)) ?_
                      | refine Br.non (by first | decide | assumption | (apply decide_eq_false; omega)) ?_
                      | refine Br.cond_ff ?_
                      | refine Br.eqT (by omega) ?_
                      | refine Br.eqF (by omega) ?_
                      | refine Br.neT (by omega) ?_
                      | refine Br.neF (by omega) ?_
                      | refine Ld.mk' _ rfl ?_
                      | refine Need.mk (by first | decide | omega | kernel_rfl) ?_
                      | refine Nm.i64 (by omega) ?_
                      | refine Nm.u64 (by omega) ?_
                      | refine Nm.u8 (by omega) ?_)
                  | refine Br.yes hq ?_
                  | refine x_load_ext rfl rfl (fun w hw => hl1 w hw) ?_
                  | refine x_load_ext rfl rfl (fun w hw => hl3 w hw) ?_
                  | (refine x_exq (TTok _ _) ?_; (conv => whnf); fail_if_success (guard_target =ₛ False)))
              all_goals (conv => whnf)
              all_goals rfl
            · have hq : eqR BinOp.eql (sv6 == v6 && (shi == rhi && (slo == rlo && true)) && (sbits == bits && true)) = false := by
                cases hb : (sv6 == v6 && (shi == rhi && (slo == rlo && true)) && (sbits == bits && true)) with
                | false => rfl
                | true =>
                  simp at hb
                  exact absurd ⟨hb.1.1, hb.1.2.1, hb.1.2.2, hb.2⟩ hsm
              repeat' (
                (conv => whnf)
                first
                  | (with_reducible first
                      | refine TR.seq ?_
                      | refine TR.region (TTok _ _) ?_
                      | refine TR.drawn (TTok _ _) mixed ?_
                      | refine TR.block ?_
                      | refine TR.ret ?_
                      | refine TR.exit ?_
                      | refine TR.skip ?_
                      | refine TR.condB rfl ?_
                      | refine Br.cond_t ?_
                      | refine Br.cond_f ?_
                      | refine Br.yes (by first | decide | assumption | (apply decide_eq_true; omega)) ?_
                      | refine Br.non (by first | decide | assumption | (apply decide_eq_false; omega)) ?_
                      | refine Br.cond_ff ?_
                      | refine Br.eqT (by omega) ?_
                      | refine Br.eqF (by omega) ?_
                      | refine Br.neT (by omega) ?_
                      | refine Br.neF (by omega) ?_
                      | refine Ld.mk' _ rfl ?_
                      | refine Need.mk (by first | decide | omega | kernel_rfl) ?_
                      | refine Nm.i64 (by omega) ?_
                      | refine Nm.u64 (by omega) ?_
                      | refine Nm.u8 (by omega) ?_)
                  | refine Br.non hq ?_
                  | refine x_load_ext rfl rfl (fun w hw => hl1 w hw) ?_
                  | refine x_load_ext rfl rfl (fun w hw => hl3 w hw) ?_
                  | (refine x_exq (TTok _ _) ?_; (conv => whnf); fail_if_success (guard_target =ₛ False)))
              all_goals (conv => whnf)
              all_goals refine ⟨j + 1, ⟨by omega, by omega, fun t ht => ?_⟩, by omega, ?_⟩
              · rw [show (j + 1).toNat = j.toNat + 1 by omega, List.take_add_one, hs] at ht
                rcases List.mem_append.1 ht with ht | ht
                · exact hno t ht
                · simp at ht
                  subst ht
                  exact hsm
              · repeat' ((conv => whnf); first | exact trivial | exact Fgt.mk rfl rfl rfl | refine And.intro rfl ?_ | refine And.intro ?_ ?_)
          · skip
            repeat' (
              (conv => whnf)
              first
                | (with_reducible first
                    | refine TR.seq ?_
                    | refine TR.region (TTok _ _) ?_
                    | refine TR.drawn (TTok _ _) mixed ?_
                    | refine TR.block ?_
                    | refine TR.ret ?_
                    | refine TR.exit ?_
                    | refine TR.skip ?_
                    | refine TR.condB rfl ?_
                    | refine Br.cond_t ?_
                    | refine Br.cond_f ?_
                    | refine Br.yes (by first | decide | assumption | (apply decide_eq_true; omega)) ?_
                    | refine Br.non (by first | decide | assumption | (apply decide_eq_false; omega)) ?_
                    | refine Br.cond_ff ?_
                    | refine Br.eqT (by omega) ?_
                    | refine Br.eqF (by omega) ?_
                    | refine Br.neT (by omega) ?_
                    | refine Br.neF (by omega) ?_
                    | refine Ld.mk' _ rfl ?_
                    | refine Need.mk (by first | decide | omega | kernel_rfl) ?_
                    | refine Nm.i64 (by omega) ?_
                    | refine Nm.u64 (by omega) ?_
                    | refine Nm.u8 (by omega) ?_)
                | (refine x_exq (TTok _ _) ?_; (conv => whnf); fail_if_success (guard_target =ₛ False)))
            all_goals (conv => whnf)
            have hji : j = i := by omega
            subst hji
            refine ⟨j + 1, ⟨by omega, by omega, ?_⟩, by omega, ?_⟩
            · rw [show (j + 1).toNat = j.toNat + 1 by omega, List.take_add_one, hr]
              refine ⟨fun s hs => ?_, ?_⟩
              · rcases List.mem_append.1 hs with hs | hs
                · exact hP.1 s hs
                · simp at hs
                  subst hs
                  exact hg
              · rw [List.pairwise_append]
                refine ⟨hP.2, by simp, fun s hs t ht => ?_⟩
                simp at ht
                subst ht
                exact hno s hs
            · repeat' ((conv => whnf); first | exact trivial | exact Fgt.mk rfl rfl rfl | refine And.intro rfl ?_ | refine And.intro ?_ ?_)
      · have hko : ok = false := bad fun h => hg (h.1 _ (List.mem_of_getElem? hr))
        subst hko
        have hcs : prefM v6 rhi rlo bits = false ∨ (prefM v6 rhi rlo bits = true ∧ act < 1) ∨ (prefM v6 rhi rlo bits = true ∧ 1 ≤ act ∧ 3 < act) := by
          cases hx : prefM v6 rhi rlo bits with
          | false => exact .inl rfl
          | true =>
            refine .inr ?_
            by_cases h1 : act < 1
            · exact .inl ⟨rfl, h1⟩
            · by_cases h3 : 3 < act
              · exact .inr ⟨rfl, by omega, h3⟩
              · exact absurd ⟨hx, by dsimp only; omega, by dsimp only; omega⟩ hg
        rcases hcs with hq | ⟨hq, ha⟩ | ⟨hq, ha, ha'⟩
        all_goals rw [hq] at hpr
        all_goals repeat' (
          (conv => whnf)
          first
            | (with_reducible first
                | refine TR.seq ?_
                | refine TR.region (TTok _ _) ?_
                | refine TR.drawn (TTok _ _) mixed ?_
                | refine TR.block ?_
                | refine TR.ret ?_
                | refine TR.exit ?_
                | refine TR.skip ?_
                | refine TR.condB rfl ?_
                | refine Br.cond_t ?_
                | refine Br.cond_f ?_
                | refine Br.yes (by first | decide | assumption | (apply decide_eq_true; omega)) ?_
                | refine Br.non (by first | decide | assumption | (apply decide_eq_false; omega)) ?_
                | refine Br.cond_ff ?_
                | refine Br.eqT (by omega) ?_
                | refine Br.eqF (by omega) ?_
                | refine Br.neT (by omega) ?_
                | refine Br.neF (by omega) ?_
                | refine Ld.mk' _ rfl ?_
                | refine Need.mk (by first | decide | omega | kernel_rfl) ?_
                | refine Nm.i64 (by omega) ?_
                | refine Nm.u64 (by omega) ?_
                | refine Nm.u8 (by omega) ?_
                | refine x_ret (f := 23) rfl rfl (fun w _ => hpr w) ?_)
            | refine x_load_ext rfl rfl (fun w hw => hl1 w hw) ?_
            | refine x_load_ext rfl rfl (fun w hw => hl2 w hw) ?_
            | (refine x_exq (TTok _ _) ?_; (conv => whnf); fail_if_success (guard_target =ₛ False)))
        all_goals (conv => whnf)
        all_goals rfl
    · skip
      repeat' (
        (conv => whnf)
        first
          | (with_reducible first
              | refine TR.seq ?_
              | refine TR.region (TTok _ _) ?_
              | refine TR.drawn (TTok _ _) mixed ?_
              | refine TR.block ?_
              | refine TR.ret ?_
              | refine TR.exit ?_
              | refine TR.skip ?_
              | refine TR.condB rfl ?_
              | refine Br.cond_t ?_
              | refine Br.cond_f ?_
              | refine Br.yes (by first | decide | assumption | (apply decide_eq_true; omega)) ?_
              | refine Br.non (by first | decide | assumption | (apply decide_eq_false; omega)) ?_
              | refine Br.cond_ff ?_
              | refine Br.eqT (by omega) ?_
              | refine Br.eqF (by omega) ?_
              | refine Br.neT (by omega) ?_
              | refine Br.neF (by omega) ?_
              | refine Ld.mk' _ rfl ?_
              | refine Need.mk (by first | decide | omega | kernel_rfl) ?_
              | refine Nm.i64 (by omega) ?_
              | refine Nm.u64 (by omega) ?_
              | refine Nm.u8 (by omega) ?_)
          | (refine x_exq (TTok _ _) ?_; (conv => whnf); fail_if_success (guard_target =ₛ False)))
      all_goals (conv => whnf)
      have hie : i = rs.length := by omega
      subst hie
      simp only [Int.toNat_natCast, List.take_length] at hP
      rw [hok.2 hP]
      rfl
/-- The same for a slice that is told by its cells. -/
theorem rules_nil (ad : Option Addr) (cap : Nat) (w : World) : Ret Tryd.prog 10 [.slice ad 0 cap] w (.bool true) := by
  refine Ret.of (I := fun _ => True) (fun w' hm => trivial) (TTok 0 _) Tryd.func10 (by kernel_rfl) rfl rfl ?_
  repeat' (
    (conv => whnf)
    first
      | (with_reducible first
          | refine TR.seq ?_
          | refine TR.region (TTok _ _) ?_
          | refine TR.drawn (TTok _ _) mixed ?_
          | refine TR.block ?_
          | refine TR.ret ?_
          | refine TR.exit ?_
          | refine TR.skip ?_
          | refine TR.condB rfl ?_
          | refine Ld.mk' _ rfl ?_
          | refine Need.mk (by first | decide | omega | kernel_rfl) ?_
          | refine Nm.i64 (by omega) ?_
          | refine Nm.u64 (by omega) ?_
          | refine Nm.u8 (by omega) ?_)
      | refine x_exq (TTok _ _) ?_)
  all_goals (conv => whnf)
  refine TR.loopH (fun _ : Unit => [(3, .v (.int .i64 0))]) (fun _ => []) (fun _ => True) (fun _ => 0) () trivial ?_ ?_
  · repeat' ((conv => whnf); first | exact trivial | exact Fgt.mk rfl rfl rfl | refine And.intro rfl ?_ | refine And.intro ?_ ?_)
  · rintro _ _
    repeat' (
      (conv => whnf)
      first
        | (with_reducible first
            | refine TR.seq ?_
            | refine TR.region (TTok _ _) ?_
            | refine TR.drawn (TTok _ _) mixed ?_
            | refine TR.block ?_
            | refine TR.ret ?_
            | refine TR.exit ?_
            | refine TR.skip ?_
            | refine TR.condB rfl ?_
            | refine Br.cond_t ?_
            | refine Br.cond_f ?_
            | refine Br.yes (by first | decide | assumption | (apply decide_eq_true; omega)) ?_
            | refine Br.non (by first | decide | assumption | (apply decide_eq_false; omega)) ?_
            | refine Br.cond_ff ?_
            | refine Br.eqT (by omega) ?_
            | refine Br.eqF (by omega) ?_
            | refine Br.neT (by omega) ?_
            | refine Br.neF (by omega) ?_
            | refine Ld.mk' _ rfl ?_
            | refine Need.mk (by first | decide | omega | kernel_rfl) ?_
            | refine Nm.i64 (by omega) ?_
            | refine Nm.u64 (by omega) ?_
            | refine Nm.u8 (by omega) ?_)
        | refine x_exq (TTok _ _) ?_)
    all_goals (conv => whnf)
    all_goals rfl
theorem okP_nil : okP [] := ⟨fun r hr => by simp at hr, by simp⟩
theorem rules_any (rs : List Rw) (w : World) (v : Value) (h : SlAt w v rs.length (rs.flatMap rcells)) (hf : ∀ r, r ∈ rs → r.fits) (hn : rs.length < 4294967296) (ok : Bool) (hok : ok = true ↔ okP rs) : Ret Tryd.prog 10 [v] w (.bool ok) := by
  rcases h with ⟨h0, a, c, rfl⟩ | ⟨ad, c, rfl, hc⟩
  · have : rs = [] := List.eq_nil_of_length_eq_zero h0
    subst this
    rw [hok.2 okP_nil]
    exact rules_nil a c w
  · cases rs with
    | nil =>
      rw [hok.2 okP_nil]
      exact rules_nil _ c w
    | cons r rs =>
      have h1 := hc 0 _ (flat_get (r :: rs) 0 r rfl 0 _ rfl)
      have hs := cell_spot h1
      obtain ⟨b, o, s⟩ := ad
      have hs : s = none := by
        cases s with
        | none => rfl
        | some s => simp [Addr.add] at hs
      subst hs
      refine rules_ret b o c (r :: rs) w ⟨fun i x hx j u hu => ?_⟩ hf hn ok hok
      have := hc _ _ (flat_get _ i x hx j u hu)
      rw [add_none, ← Nat.add_assoc] at this
      exact this
end Go.Proofs.YtopadpgpmkkpgaaDoor
set_option maxRecDepth 100000
namespace Go.Proofs.YtopadpgpmkkpgaaDoor
open Go.SX
theorem IR.bits {rb ro : Nat} {rs : List Rw} {w : World} (h : IR rb ro rs w) {i : Nat} {r : Rw} (hr : rs[i]? = some r) : (loadVar 3 ⟨rb, ro + i * 5 + 0 + 3, none⟩).run Tryd.prog w = .ok (.int .i64 r.bits) w := by
  have hc := h.cell i r hr 3 _ rfl
  obtain ⟨y, hy, hd⟩ : ∃ y, getO TT 3 = some y ∧ y.size = 1 ∧ aggd y = false := ⟨_, rfl, rfl, rfl⟩
  have := ((TTok 0 (fun _ => True)) 3 y hy).run_load (w := w) ⟨rb, ro + i * 5 + 0 + 3, none⟩ [.int .i64 r.bits] (by rw [hd.1]; rfl) (fun _ => hd.1) (fun j v hv => by
    rw [add_none]
    cases j with
    | zero => cases hv; exact hc
    | succ j => simp at hv)
  rw [hd.2] at this
  exact this
theorem hold_iff (v6 : Bool) (hi lo bits : Int) (av6 : Bool) (ahi alo : Int) (hh : 0 ≤ hi ∧ hi ≤ 18446744073709551615) (hl : 0 ≤ lo ∧ lo ≤ 18446744073709551615) (ah : 0 ≤ ahi ∧ ahi ≤ 18446744073709551615) (al : 0 ≤ alo ∧ alo ≤ 18446744073709551615) :
    ∃ b : Bool, (b = true ↔ (prefM v6 hi lo bits = true ∧ rightM av6 ahi alo = true ∧ v6 = av6 ∧ eqB (ph v6 hi lo) (pl v6 lo) (ph av6 ahi alo) (pl av6 alo) bits)) ∧
      (∀ w, Ret Tryd.prog 17 [.agg #[.bool v6, .int .u64 hi, .int .u64 lo, .int .i64 bits], .agg #[.bool av6, .int .u64 ahi, .int .u64 alo]] w (.bool b)) ∧
      ∀ w, Ret Tryd.prog 16 [.agg #[.bool v6, .int .u64 hi, .int .u64 lo, .int .i64 bits], .agg #[.bool av6, .int .u64 ahi, .int .u64 alo]] w (.bool b) := by
  have hlaw := pref_law v6 hi lo bits hh hl
  obtain ⟨b, hb⟩ : ∃ b : Bool, b = true ↔ (prefM v6 hi lo bits = true ∧ rightM av6 ahi alo = true ∧ v6 = av6 ∧ eqB (ph v6 hi lo) (pl v6 lo) (ph av6 ahi alo) (pl av6 alo) bits) := by
    by_cases h : (prefM v6 hi lo bits = true ∧ rightM av6 ahi alo = true ∧ v6 = av6 ∧ eqB (ph v6 hi lo) (pl v6 lo) (ph av6 ahi alo) (pl av6 alo) bits)
    · exact ⟨true, ⟨fun _ => h, fun _ => rfl⟩⟩
    · exact ⟨false, ⟨fun hf => (by cases hf), fun h' => absurd h' h⟩⟩
  refine ⟨b, hb, fun w => holds_ret v6 hi lo bits av6 ahi alo w hh hl ah al b hb, fun w => rholds_ret v6 hi lo bits av6 ahi alo w hl.1 al.1 (prefM v6 hi lo bits) hlaw b ?_⟩
  rw [hb]
  refine and_congr_right fun h1 => and_congr_right fun h2 => and_congr_right fun h3 => ?_
  obtain ⟨r1, r2, r3, _⟩ := hlaw.1 h1
  unfold eqB
  refine forall_congr' fun k => forall_congr' fun k0 => forall_congr' fun k1 => ?_
  rw [rbit_eq v6 hi lo k hl.1 r1 k0 (by omega), rbit_eq av6 ahi alo k al.1 h2 k0 (by rw [← h3]; omega)]
theorem mt_eqB {v6 : Bool} {hi lo : Int} {r : Rw} (hg : good r) : mt v6 hi lo r ↔ (prefM r.v6 r.hi r.lo r.bits = true ∧ rightM v6 hi lo = true ∧ r.v6 = v6 ∧ eqB (ph r.v6 r.hi r.lo) (pl r.v6 r.lo) (ph v6 hi lo) (pl v6 lo) r.bits) := by
  have hb := good_bits hg
  constructor
  · rintro ⟨h1, h2, h3⟩
    refine ⟨hg.1, h1, kd_inj h2, fun j j0 j1 => ?_⟩
    have := List.map_inj_left.1 h3 j.toNat (List.mem_range.2 (by omega))
    rw [show ((j.toNat : Nat) : Int) = j by omega] at this
    exact this
  · rintro ⟨_, h1, h2, h3⟩
    refine ⟨h1, by rw [h2], List.map_inj_left.2 fun j hj => ?_⟩
    have := List.mem_range.1 hj
    exact h3 j (by omega) (by omega)
theorem FS.skip {l : List Rw} {r : Rw} {v6 : Bool} {hi lo : Int} {res : Option Rw} (h : FS l v6 hi lo res) (hr : ¬ mt v6 hi lo r) : FS (l ++ [r]) v6 hi lo res := by
  cases res with
  | none =>
    intro s hs
    rcases List.mem_append.1 hs with hs | hs
    · exact h s hs
    · simp at hs; subst hs; exact hr
  | some t =>
    refine ⟨by simp [h.1], h.2.1, fun s hs hm => ?_⟩
    rcases List.mem_append.1 hs with hs | hs
    · exact h.2.2 s hs hm
    · simp at hs; subst hs; exact absurd hm hr
theorem FS.first {l : List Rw} {r : Rw} {v6 : Bool} {hi lo : Int} (h : FS l v6 hi lo none) (hr : mt v6 hi lo r) : FS (l ++ [r]) v6 hi lo (some r) := by
  refine ⟨by simp, hr, fun s hs hm => ?_⟩
  rcases List.mem_append.1 hs with hs | hs
  · exact absurd hm (h s hs)
  · simp at hs; subst hs; exact Nat.le_refl _
theorem FS.more {l : List Rw} {r t : Rw} {v6 : Bool} {hi lo : Int} (h : FS l v6 hi lo (some t)) (hr : mt v6 hi lo r) (hb : t.bits.toNat ≤ r.bits.toNat) : FS (l ++ [r]) v6 hi lo (some r) := by
  refine ⟨by simp, hr, fun s hs hm => ?_⟩
  rcases List.mem_append.1 hs with hs | hs
  · exact Nat.le_trans (h.2.2 s hs hm) hb
  · simp at hs; subst hs; exact Nat.le_refl _
theorem FS.less {l : List Rw} {r t : Rw} {v6 : Bool} {hi lo : Int} (h : FS l v6 hi lo (some t)) (hb : r.bits.toNat ≤ t.bits.toNat) : FS (l ++ [r]) v6 hi lo (some t) := by
  refine ⟨by simp [h.1], h.2.1, fun s hs hm => ?_⟩
  rcases List.mem_append.1 hs with hs | hs
  · exact h.2.2 s hs hm
  · simp at hs; subst hs; exact hb
theorem FS.uniq {rs : List Rw} (hok : okR rs) {v6 : Bool} {hi lo : Int} {a b : Option Rw} (ha : FS rs v6 hi lo a) (hb : FS rs v6 hi lo b) : a = b := by
  cases a with
  | none =>
    cases b with
    | none => rfl
    | some s => exact absurd hb.2.1 (ha s hb.1)
  | some r =>
    cases b with
    | none => exact absurd ha.2.1 (hb r ha.1)
    | some s =>
      have h1 := ha.2.2 s hb.1 hb.2.1
      have h2 := hb.2.2 r ha.1 ha.2.1
      have e : r.bits.toNat = s.bits.toNat := by omega
      obtain ⟨_, r2, r3⟩ := ha.2.1
      obtain ⟨_, s2, s3⟩ := hb.2.1
      have hk : kd r.v6 = kd s.v6 := by rw [r2, s2]
      have hp : r.path = s.path := by rw [r3, s3, e]
      obtain ⟨i, hi1⟩ := List.mem_iff_getElem?.1 ha.1
      obtain ⟨j, hj1⟩ := List.mem_iff_getElem?.1 hb.1
      obtain ⟨i1, i2⟩ := List.getElem?_eq_some_iff.1 hi1
      obtain ⟨j1, j2⟩ := List.getElem?_eq_some_iff.1 hj1
      rcases Nat.lt_trichotomy i j with hij | hij | hij
      · have := List.pairwise_iff_getElem.1 hok.2 i j i1 j1 hij
        rw [i2, j2] at this
        exact absurd ⟨hk, hp⟩ this
      · subst hij
        rw [hi1] at hj1
        exact hj1
      · have := List.pairwise_iff_getElem.1 hok.2 j i j1 i1 hij
        rw [i2, j2] at this
        exact absurd ⟨hk.symm, hp.symm⟩ this
/-- The best rule so far and its number. -/
def Bst (rs : List Rw) (b : Int) : Option Rw → Prop
  | none => b = -1
  | some r => 0 ≤ b ∧ b < rs.length ∧ rs[b.toNat]? = some r
set_option maxHeartbeats 4000000 in
theorem rfind_ret (rb ro cap : Nat) (rs : List Rw) (w : World) (hI : IR rb ro rs w) (hf : ∀ r, r ∈ rs → r.fits) (hn : rs.length < 4294967296) (hok : okR rs) (v6 : Bool) (hi lo : Int) (hh : 0 ≤ hi ∧ hi ≤ 18446744073709551615) (hl : 0 ≤ lo ∧ lo ≤ 18446744073709551615) (res : Option Rw) (hres : FS rs v6 hi lo res) :
    Ret Tryd.prog 12 [.slice (some ⟨rb, ro, none⟩) rs.length cap, .agg #[.bool v6, .int .u64 hi, .int .u64 lo]] w (findV res) := by
  refine Ret.of (I := IR rb ro rs) (fun w' hm => hI.mod hm) (TTok 0 _) Tryd.func12 (by kernel_rfl) rfl rfl ?_
  repeat' (
    (conv => whnf)
    first
      | (with_reducible first
          | refine TR.seq ?_
          | refine TR.region (TTok _ _) ?_
          | refine TR.drawn (TTok _ _) mixed ?_
          | refine TR.block ?_
          | refine TR.ret ?_
          | refine TR.exit ?_
          | refine TR.skip ?_
          | refine TR.condB rfl ?_
          | refine Ld.mk' _ rfl ?_
          | refine Need.mk (by first | decide | omega | kernel_rfl) ?_
          | refine Nm.i64 (by omega) ?_
          | refine Nm.u64 (by omega) ?_
          | refine Nm.u8 (by omega) ?_)
      | refine x_exq (TTok _ _) ?_)
  all_goals (conv => whnf)
  refine TR.loopH (fun x : Int × Int × Option Rw => [(7, .v (.int .i64 x.2.1)), (8, .v (.int .i64 x.1))]) (fun _ => []) (fun x => 0 ≤ x.1 ∧ x.1 ≤ rs.length ∧ Bst rs x.2.1 x.2.2 ∧ FS (rs.take x.1.toNat) v6 hi lo x.2.2) (fun x => (rs.length - x.1).toNat) (0, -1, none) ⟨by simp, by simp, rfl, fun r hr => by simp at hr⟩ ?_ ?_
  · repeat' ((conv => whnf); first | exact trivial | exact Fgt.mk rfl rfl rfl | refine And.intro rfl ?_ | refine And.intro ?_ ?_)
  · rintro ⟨i, bi, br⟩ ⟨i0, i1, hB, hF⟩
    dsimp only at i0 i1 hB hF ⊢
    by_cases hin : i < rs.length
    · obtain ⟨r, hr⟩ : ∃ r, rs[i.toNat]? = some r := ⟨rs[i.toNat], by rw [List.getElem?_eq_getElem]⟩
      have hmem := List.mem_of_getElem? hr
      have hfit := hf r hmem
      have hg := hok.1 r hmem
      have hgb := good_bits hg
      obtain ⟨hb, hbm, h16⟩ : ∃ b : Bool, (b = true ↔ mt v6 hi lo r) ∧ ∀ w, Ret Tryd.prog 16 [.agg #[.bool r.v6, .int .u64 r.hi, .int .u64 r.lo, .int .i64 r.bits], .agg #[.bool v6, .int .u64 hi, .int .u64 lo]] w (.bool b) := by
        obtain ⟨b, hb1, _, hb2⟩ := hold_iff r.v6 r.hi r.lo r.bits v6 hi lo ⟨hfit.hi0, hfit.hi1⟩ ⟨hfit.lo0, hfit.lo1⟩ hh hl
        exact ⟨b, hb1.trans (mt_eqB hg).symm, hb2⟩
      have htk : rs.take (i + 1).toNat = rs.take i.toNat ++ [r] := by
        rw [show (i + 1).toNat = i.toNat + 1 by omega, List.take_add_one, hr]
        rfl
      have hwb : wid r.v6 ≤ 128 := by cases r.v6 <;> simp [wid]
      obtain ⟨rv6, rhi, rlo, bits, act⟩ := r
      have hl1 : ∀ w, IR rb ro rs w → (loadVar 34 ⟨rb, ro + i.toNat * 5 + 0, none⟩).run Tryd.prog w = .ok (.agg #[.bool rv6, .int .u64 rhi, .int .u64 rlo, .int .i64 bits]) w := fun w hw => hw.pref hr
      have hl2 : ∀ w, IR rb ro rs w → (loadVar 3 ⟨rb, ro + i.toNat * 5 + 0 + 3, none⟩).run Tryd.prog w = .ok (.int .i64 bits) w := fun w hw => hw.bits hr
      simp only at h16 hgb hwb
      cases hb with
      | false =>
        have hnm : ¬ mt v6 hi lo ⟨rv6, rhi, rlo, bits, act⟩ := fun h => by cases hbm.2 h
        repeat' (
          (conv => whnf)
          first
            | (with_reducible first
                | refine TR.seq ?_
                | refine TR.region (TTok _ _) ?_
                | refine TR.drawn (TTok _ _) mixed ?_
                | refine TR.block ?_
                | refine TR.ret ?_
                | refine TR.exit ?_
                | refine TR.skip ?_
                | refine TR.condB rfl ?_
                | refine Br.cond_t ?_
                | refine Br.cond_f ?_
                | refine Br.yes (by first | decide | assumption | (apply decide_eq_true; omega)) ?_
                | refine Br.non (by first | decide | assumption | (apply decide_eq_false; omega)) ?_
                | refine Br.cond_ff ?_
                | refine Br.eqT (by omega) ?_
                | refine Br.eqF (by omega) ?_
                | refine Br.neT (by omega) ?_
                | refine Br.neF (by omega) ?_
                | refine Ld.mk' _ rfl ?_
                | refine Need.mk (by first | decide | omega | kernel_rfl) ?_
                | refine Nm.i64 (by omega) ?_
                | refine Nm.u64 (by omega) ?_
                | refine Nm.u8 (by omega) ?_
                | refine x_ret (f := 16) rfl rfl (fun w _ => h16 w) ?_)
            | refine Br.non rfl ?_
            | refine Br.yes rfl ?_
            | refine x_load_ext rfl rfl (fun w hw => hl1 w hw) ?_
            | refine x_load_ext rfl rfl (fun w hw => hl2 w hw) ?_
            | (refine x_exq (TTok _ _) ?_; (conv => whnf); fail_if_success (guard_target =ₛ False)))
        all_goals (conv => whnf)
        refine ⟨(i + 1, bi, br), ⟨by dsimp only; omega, by dsimp only; omega, hB, by dsimp only; rw [htk]; exact hF.skip hnm⟩, by dsimp only; omega, ?_⟩
        repeat' ((conv => whnf); first | exact trivial | exact Fgt.mk rfl rfl rfl | refine And.intro rfl ?_ | refine And.intro ?_ ?_)
      | true =>
        have hm := hbm.1 rfl
        rcases br with _ | s
        · have hB : bi = -1 := hB
          subst hB
          repeat' (
            (conv => whnf)
            first
              | (with_reducible first
                  | refine TR.seq ?_
                  | refine TR.region (TTok _ _) ?_
                  | refine TR.drawn (TTok _ _) mixed ?_
                  | refine TR.block ?_
                  | refine TR.ret ?_
                  | refine TR.exit ?_
                  | refine TR.skip ?_
                  | refine TR.condB rfl ?_
                  | refine Br.cond_t ?_
                  | refine Br.cond_f ?_
                  | refine Br.yes (by first | decide | assumption | (apply decide_eq_true; omega)) ?_
                  | refine Br.non (by first | decide | assumption | (apply decide_eq_false; omega)) ?_
                  | refine Br.cond_ff ?_
                  | refine Br.eqT (by omega) ?_
                  | refine Br.eqF (by omega) ?_
                  | refine Br.neT (by omega) ?_
                  | refine Br.neF (by omega) ?_
                  | refine Ld.mk' _ rfl ?_
                  | refine Need.mk (by first | decide | omega | kernel_rfl) ?_
                  | refine Nm.i64 (by omega) ?_
                  | refine Nm.u64 (by omega) ?_
                  | refine Nm.u8 (by omega) ?_
                  | refine x_ret (f := 16) rfl rfl (fun w _ => h16 w) ?_)
              | refine Br.non rfl ?_
              | refine Br.yes rfl ?_
              | refine x_load_ext rfl rfl (fun w hw => hl1 w hw) ?_
              | refine x_load_ext rfl rfl (fun w hw => hl2 w hw) ?_
              | (refine x_exq (TTok _ _) ?_; (conv => whnf); fail_if_success (guard_target =ₛ False)))
          all_goals (conv => whnf)
          refine ⟨(i + 1, i, some ⟨rv6, rhi, rlo, bits, act⟩), ⟨by dsimp only; omega, by dsimp only; omega, ⟨i0, hin, hr⟩, by dsimp only; rw [htk]; exact hF.first hm⟩, by dsimp only; omega, ?_⟩
          repeat' ((conv => whnf); first | exact trivial | exact Fgt.mk rfl rfl rfl | refine And.intro rfl ?_ | refine And.intro ?_ ?_)
        · obtain ⟨b0, b1, hs⟩ := hB
          have hsb := good_bits (hok.1 s (List.mem_of_getElem? hs))
          have hsw : wid s.v6 ≤ 128 := by cases s.v6 <;> simp [wid]
          obtain ⟨sv6, shi, slo, sbits, sact⟩ := s
          simp only at hsb hsw
          have hl3 : ∀ w, IR rb ro rs w → (loadVar 3 ⟨rb, ro + bi.toNat * 5 + 0 + 3, none⟩).run Tryd.prog w = .ok (.int .i64 sbits) w := fun w hw => hw.bits hs
          by_cases hgt : sbits < bits
          · skip
            repeat' (
              (conv => whnf)
              first
                | (with_reducible first
                    | refine TR.seq ?_
                    | refine TR.region (TTok _ _) ?_
                    | refine TR.drawn (TTok _ _) mixed ?_
                    | refine TR.block ?_
                    | refine TR.ret ?_
                    | refine TR.exit ?_
                    | refine TR.skip ?_
                    | refine TR.condB rfl ?_
                    | refine Br.cond_t ?_
                    | refine Br.cond_f ?_
                    | refine Br.yes (by first | decide | assumption | (apply decide_eq_true; omega)) ?_
                    | refine Br.non (by first | decide | assumption | (apply decide_eq_false; omega)) ?_
                    | refine Br.cond_ff ?_
                    | refine Br.eqT (by omega) ?_
                    | refine Br.eqF (by omega) ?_
                    | refine Br.neT (by omega) ?_
                    | refine Br.neF (by omega) ?_
                    | refine Ld.mk' _ rfl ?_
                    | refine Need.mk (by first | decide | omega | kernel_rfl) ?_
                    | refine Nm.i64 (by omega) ?_
                    | refine Nm.u64 (by omega) ?_
                    | refine Nm.u8 (by omega) ?_
                    | refine x_ret (f := 16) rfl rfl (fun w _ => h16 w) ?_)
                | refine Br.non rfl ?_
                | refine Br.yes rfl ?_
                | refine x_load_ext rfl rfl (fun w hw => hl1 w hw) ?_
                | refine x_load_ext rfl rfl (fun w hw => hl2 w hw) ?_
                | refine x_load_ext rfl rfl (fun w hw => hl3 w hw) ?_
                | (refine x_exq (TTok _ _) ?_; (conv => whnf); fail_if_success (guard_target =ₛ False)))
            all_goals (conv => whnf)
            refine ⟨(i + 1, i, some ⟨rv6, rhi, rlo, bits, act⟩), ⟨by dsimp only; omega, by dsimp only; omega, ⟨i0, hin, hr⟩, by dsimp only; rw [htk]; exact hF.more hm (by dsimp only; omega)⟩, by dsimp only; omega, ?_⟩
            repeat' ((conv => whnf); first | exact trivial | exact Fgt.mk rfl rfl rfl | refine And.intro rfl ?_ | refine And.intro ?_ ?_)
          · skip
            repeat' (
              (conv => whnf)
              first
                | (with_reducible first
                    | refine TR.seq ?_
                    | refine TR.region (TTok _ _) ?_
                    | refine TR.drawn (TTok _ _) mixed ?_
                    | refine TR.block ?_
                    | refine TR.ret ?_
                    | refine TR.exit ?_
                    | refine TR.skip ?_
                    | refine TR.condB rfl ?_
                    | refine Br.cond_t ?_
                    | refine Br.cond_f ?_
                    | refine Br.yes (by first | decide | assumption | (apply decide_eq_true; omega)) ?_
                    | refine Br.non (by first | decide | assumption | (apply decide_eq_false; omega)) ?_
                    | refine Br.cond_ff ?_
                    | refine Br.eqT (by omega) ?_
                    | refine Br.eqF (by omega) ?_
                    | refine Br.neT (by omega) ?_
                    | refine Br.neF (by omega) ?_
                    | refine Ld.mk' _ rfl ?_
                    | refine Need.mk (by first | decide | omega | kernel_rfl) ?_
                    | refine Nm.i64 (by omega) ?_
                    | refine Nm.u64 (by omega) ?_
                    | refine Nm.u8 (by omega) ?_
                    | refine x_ret (f := 16) rfl rfl (fun w _ => h16 w) ?_)
                | refine Br.non rfl ?_
                | refine Br.yes rfl ?_
                | refine x_load_ext rfl rfl (fun w hw => hl1 w hw) ?_
                | refine x_load_ext rfl rfl (fun w hw => hl2 w hw) ?_
                | refine x_load_ext rfl rfl (fun w hw => hl3 w hw) ?_
                | (refine x_exq (TTok _ _) ?_; (conv => whnf); fail_if_success (guard_target =ₛ False)))
            all_goals (conv => whnf)
            refine ⟨(i + 1, bi, some ⟨sv6, shi, slo, sbits, sact⟩), ⟨by dsimp only; omega, by dsimp only; omega, ⟨b0, b1, hs⟩, by dsimp only; rw [htk]; exact hF.less (by dsimp only; omega)⟩, by dsimp only; omega, ?_⟩
            repeat' ((conv => whnf); first | exact trivial | exact Fgt.mk rfl rfl rfl | refine And.intro rfl ?_ | refine And.intro ?_ ?_)
    · have hie : i = rs.length := by omega
      have hF2 := hF
      rw [hie, Int.toNat_natCast, List.take_length] at hF2
      have hrr := hF2.uniq hok hres
      subst hrr
      rcases br with _ | s
      · have hB : bi = -1 := hB
        subst hB
        repeat' (
          (conv => whnf)
          first
            | (with_reducible first
                | refine TR.seq ?_
                | refine TR.region (TTok _ _) ?_
                | refine TR.drawn (TTok _ _) mixed ?_
                | refine TR.block ?_
                | refine TR.ret ?_
                | refine TR.exit ?_
                | refine TR.skip ?_
                | refine TR.condB rfl ?_
                | refine Br.cond_t ?_
                | refine Br.cond_f ?_
                | refine Br.yes (by first | decide | assumption | (apply decide_eq_true; omega)) ?_
                | refine Br.non (by first | decide | assumption | (apply decide_eq_false; omega)) ?_
                | refine Br.cond_ff ?_
                | refine Br.eqT (by omega) ?_
                | refine Br.eqF (by omega) ?_
                | refine Br.neT (by omega) ?_
                | refine Br.neF (by omega) ?_
                | refine Ld.mk' _ rfl ?_
                | refine Need.mk (by first | decide | omega | kernel_rfl) ?_
                | refine Nm.i64 (by omega) ?_
                | refine Nm.u64 (by omega) ?_
                | refine Nm.u8 (by omega) ?_)
            | refine Br.non rfl ?_
            | refine Br.yes rfl ?_
            | (refine x_exq (TTok _ _) ?_; (conv => whnf); fail_if_success (guard_target =ₛ False)))
        all_goals (conv => whnf)
        all_goals rfl
      · obtain ⟨b0, b1, hs⟩ := hB
        have hl1 : ∀ w, IR rb ro rs w → (loadVar 3 ⟨rb, ro + bi.toNat * 5 + 4, none⟩).run Tryd.prog w = .ok (.int .i64 s.act) w := fun w hw => hw.act hs
        have hl2 : ∀ w, IR rb ro rs w → (loadVar 34 ⟨rb, ro + bi.toNat * 5 + 0, none⟩).run Tryd.prog w = .ok (.agg #[.bool s.v6, .int .u64 s.hi, .int .u64 s.lo, .int .i64 s.bits]) w := fun w hw => hw.pref hs
        repeat' (
          (conv => whnf)
          first
            | (with_reducible first
                | refine TR.seq ?_
                | refine TR.region (TTok _ _) ?_
                | refine TR.drawn (TTok _ _) mixed ?_
                | refine TR.block ?_
                | refine TR.ret ?_
                | refine TR.exit ?_
                | refine TR.skip ?_
                | refine TR.condB rfl ?_
                | refine Br.cond_t ?_
                | refine Br.cond_f ?_
                | refine Br.yes (by first | decide | assumption | (apply decide_eq_true; omega)) ?_
                | refine Br.non (by first | decide | assumption | (apply decide_eq_false; omega)) ?_
                | refine Br.cond_ff ?_
                | refine Br.eqT (by omega) ?_
                | refine Br.eqF (by omega) ?_
                | refine Br.neT (by omega) ?_
                | refine Br.neF (by omega) ?_
                | refine Ld.mk' _ rfl ?_
                | refine Need.mk (by first | decide | omega | kernel_rfl) ?_
                | refine Nm.i64 (by omega) ?_
                | refine Nm.u64 (by omega) ?_
                | refine Nm.u8 (by omega) ?_)
            | refine Br.non rfl ?_
            | refine Br.yes rfl ?_
            | refine x_load_ext rfl rfl (fun w hw => hl1 w hw) ?_
            | refine x_load_ext rfl rfl (fun w hw => hl2 w hw) ?_
            | (refine x_exq (TTok _ _) ?_; (conv => whnf); fail_if_success (guard_target =ₛ False)))
        all_goals (conv => whnf)
        all_goals rfl
end Go.Proofs.YtopadpgpmkkpgaaDoor
set_option maxRecDepth 100000
namespace Go.Proofs.YtopadpgpmkkpgaaDoor
open Go.SX
theorem nat_bits : ∀ (n a b : Nat), a < 2 ^ n → b < 2 ^ n → (∀ j, j < n → a / 2 ^ j % 2 = b / 2 ^ j % 2) → a = b
  | 0, a, b, ha, hb, _ => by omega
  | n + 1, a, b, ha, hb, h => by
    have h0 := h 0 (by omega)
    simp only [Nat.pow_zero, Nat.div_one] at h0
    have h1 : a / 2 = b / 2 := nat_bits n (a / 2) (b / 2) (by rw [Nat.pow_succ] at ha; omega) (by rw [Nat.pow_succ] at hb; omega) fun j hj => by
      have := h (j + 1) (by omega)
      rw [Nat.pow_succ, Nat.mul_comm, ← Nat.div_div_eq_div_mul, ← Nat.div_div_eq_div_mul] at this
      exact this
    omega
theorem int_bits (a b : Int) (ha : 0 ≤ a ∧ a ≤ 18446744073709551615) (hb : 0 ≤ b ∧ b ≤ 18446744073709551615) (h : ∀ j : Nat, j < 64 → a / 2 ^ j % 2 = b / 2 ^ j % 2) : a = b := by
  have : a.toNat = b.toNat := by
    refine nat_bits 64 _ _ (by omega) (by omega) fun j hj => ?_
    have h1 := h j hj
    have e1 : a = (a.toNat : Int) := by omega
    have e2 : b = (b.toNat : Int) := by omega
    rw [e1, e2] at h1
    have h2 : ((a.toNat / 2 ^ j % 2 : Nat) : Int) = ((b.toNat / 2 ^ j % 2 : Nat) : Int) := by
      rw [Int.natCast_emod, Int.natCast_emod, Int.natCast_ediv, Int.natCast_ediv, Int.natCast_pow]
      exact h1
    exact_mod_cast h2
  omega
theorem bitM_hi (hi lo : Int) (j : Nat) (hj : j < 64) : bitM hi lo (63 - (j : Int)) = hi / 2 ^ j % 2 := by
  unfold bitM
  rw [if_pos (by omega), show (63 - (63 - (j : Int))).toNat = j by omega]
theorem bitM_lo (hi lo : Int) (j : Nat) (hj : j < 64) : bitM hi lo (127 - (j : Int)) = lo / 2 ^ j % 2 := by
  unfold bitM
  rw [if_neg (by omega), show (127 - (127 - (j : Int))).toNat = j by omega]
theorem low_zero (x : Int) (j : Nat) (hj : j < 32) : x * 4294967296 / 2 ^ j % 2 = 0 := by
  have hpos : (2 : Int) ^ j ≠ 0 := Int.ne_of_gt (Int.pow_pos (by decide))
  have e : (4294967296 : Int) = 2 ^ (31 - j) * 2 * 2 ^ j := by
    have h : (2 : Int) ^ (31 - j) * 2 * 2 ^ j = 2 ^ (31 - j + 1 + j) := by rw [Int.pow_add, Int.pow_succ]
    rw [h, show 31 - j + 1 + j = 32 by omega]
    rfl
  rw [e, ← Int.mul_assoc, Int.mul_ediv_cancel _ hpos, ← Int.mul_assoc]
  omega
theorem same_of {r s : Rw} (fr : r.fits) (fs : s.fits) (gr : good r) (gs : good s) (hk : kd r.v6 = kd s.v6) (hp : r.path = s.path) : sameP r s := by
  have br := good_bits gr
  have bs := good_bits gs
  have hlen := congrArg List.length hp
  rw [Rw.path, Rw.path, bitsU_len, bitsU_len] at hlen
  have hv := kd_inj hk
  have hbits : r.bits = s.bits := by omega
  obtain ⟨r1, r2, r3, r4⟩ := (pref_law _ _ _ _ ⟨fr.hi0, fr.hi1⟩ ⟨fr.lo0, fr.lo1⟩).1 gr.1
  obtain ⟨s1, s2, s3, s4⟩ := (pref_law _ _ _ _ ⟨fs.hi0, fs.hi1⟩ ⟨fs.lo0, fs.lo1⟩).1 gs.1
  have all : ∀ k, 0 ≤ k → k < wid r.v6 → bitM (ph r.v6 r.hi r.lo) (pl r.v6 r.lo) k = bitM (ph s.v6 s.hi s.lo) (pl s.v6 s.lo) k := by
    intro k k0 k1
    by_cases hkb : k < r.bits
    · rw [Rw.path, Rw.path, hbits] at hp
      have := List.map_inj_left.1 hp k.toNat (List.mem_range.2 (by omega))
      rw [show ((k.toNat : Nat) : Int) = k by omega] at this
      exact this
    · have e1 := r4 k (by omega) k1
      have e2 := s4 k (by omega) (by rw [← hv]; exact k1)
      rw [rbit_eq r.v6 r.hi r.lo k fr.lo0 r1 k0 k1] at e1
      rw [rbit_eq s.v6 s.hi s.lo k fs.lo0 s1 k0 (by rw [← hv]; exact k1)] at e2
      rw [e1, e2]
  obtain ⟨rv, rhi, rlo, rbits, ract⟩ := r
  obtain ⟨sv, shi, slo, sbits, sact⟩ := s
  simp only at hv hbits all r1 s1
  subst hv
  obtain ⟨h1, h2, h3, h4⟩ := fr
  obtain ⟨g1, g2, g3, g4⟩ := fs
  simp only at h1 h2 h3 h4 g1 g2 g3 g4
  cases rv with
  | true =>
    refine ⟨rfl, ?_, ?_, hbits⟩
    · refine int_bits _ _ ⟨h1, h2⟩ ⟨g1, g2⟩ fun j hj => ?_
      have := all (63 - (j : Int)) (by omega) (by simp only [wid, if_true]; omega)
      rw [bitM_hi _ _ _ hj, bitM_hi _ _ _ hj] at this
      exact this
    · refine int_bits _ _ ⟨h3, h4⟩ ⟨g3, g4⟩ fun j hj => ?_
      have := all (127 - (j : Int)) (by omega) (by simp only [wid, if_true]; omega)
      rw [bitM_lo _ _ _ hj, bitM_lo _ _ _ hj] at this
      exact this
  | false =>
    have q1 : rhi = 0 ∧ rlo / 4294967296 = 0 := by simpa [rightM] using r1
    have q2 : shi = 0 ∧ slo / 4294967296 = 0 := by simpa [rightM] using s1
    have w1 : IntKind.u64.wrap (rlo * 4294967296) = rlo * 4294967296 := by
      have h2 : IntKind.u64.wrap (rlo * 4294967296) = (rlo * 4294967296) % 18446744073709551616 := by simp [IntKind.wrap, IntKind.signed, IntKind.bits]
      rw [h2]; omega
    have w2 : IntKind.u64.wrap (slo * 4294967296) = slo * 4294967296 := by
      have h2 : IntKind.u64.wrap (slo * 4294967296) = (slo * 4294967296) % 18446744073709551616 := by simp [IntKind.wrap, IntKind.signed, IntKind.bits]
      rw [h2]; omega
    have key : rlo = slo := by
      have hx : rlo * 4294967296 = slo * 4294967296 := by
        refine int_bits _ _ (by omega) (by omega) fun j hj => ?_
        by_cases hj2 : 32 ≤ j
        · have := all (63 - (j : Int)) (by omega) (by simp only [wid]; simp; omega)
          rw [bitM_hi _ _ _ hj, bitM_hi _ _ _ hj] at this
          simp only [ph, Bool.false_eq_true, if_false, w1, w2] at this
          exact this
        · rw [low_zero rlo j (by omega), low_zero slo j (by omega)]
      omega
    exact ⟨rfl, by show rhi = shi; omega, key, hbits⟩
theorem same_path {r s : Rw} (h : sameP r s) : kd r.v6 = kd s.v6 ∧ r.path = s.path := by
  obtain ⟨h1, h2, h3, h4⟩ := h
  exact ⟨by rw [h1], by rw [Rw.path, Rw.path, h1, h2, h3, h4]⟩
theorem ok_iff {rs : List Rw} (hf : ∀ r, r ∈ rs → r.fits) : okP rs ↔ okR rs := by
  constructor
  · rintro ⟨h1, h2⟩
    refine ⟨h1, h2.imp_of_mem fun {r s} hr hs hn ⟨e1, e2⟩ => hn (same_of (hf r hr) (hf s hs) (h1 r hr) (h1 s hs) e1 e2)⟩
  · rintro ⟨h1, h2⟩
    exact ⟨h1, h2.imp fun hn h => hn (same_path h)⟩
theorem rfind_nil (ad : Option Addr) (cap : Nat) (v6 : Bool) (hi lo : Int) (w : World) : Ret Tryd.prog 12 [.slice ad 0 cap, .agg #[.bool v6, .int .u64 hi, .int .u64 lo]] w noF := by
  refine Ret.of (I := fun _ => True) (fun w' hm => trivial) (TTok 0 _) Tryd.func12 (by kernel_rfl) rfl rfl ?_
  repeat' (
    (conv => whnf)
    first
      | (with_reducible first
          | refine TR.seq ?_
          | refine TR.region (TTok _ _) ?_
          | refine TR.drawn (TTok _ _) mixed ?_
          | refine TR.block ?_
          | refine TR.ret ?_
          | refine TR.exit ?_
          | refine TR.skip ?_
          | refine TR.condB rfl ?_
          | refine Br.cond_t ?_
          | refine Br.cond_f ?_
          | refine Br.yes (by first | decide | assumption | (apply decide_eq_true; omega)) ?_
          | refine Br.non (by first | decide | assumption | (apply decide_eq_false; omega)) ?_
          | refine Br.cond_ff ?_
          | refine Br.eqT (by omega) ?_
          | refine Br.eqF (by omega) ?_
          | refine Br.neT (by omega) ?_
          | refine Br.neF (by omega) ?_
          | refine Ld.mk' _ rfl ?_
          | refine Need.mk (by first | decide | omega | kernel_rfl) ?_
          | refine Nm.i64 (by omega) ?_
          | refine Nm.u64 (by omega) ?_
          | refine Nm.u8 (by omega) ?_)
      | refine x_exq (TTok _ _) ?_)
  all_goals (conv => whnf)
  refine TR.loopH (fun _ : Unit => [(7, .v (.int .i64 (-1))), (8, .v (.int .i64 0))]) (fun _ => []) (fun _ => True) (fun _ => 0) () trivial ?_ ?_
  · repeat' ((conv => whnf); first | exact trivial | exact Fgt.mk rfl rfl rfl | refine And.intro rfl ?_ | refine And.intro ?_ ?_)
  · rintro _ _
    repeat' (
      (conv => whnf)
      first
        | (with_reducible first
            | refine TR.seq ?_
            | refine TR.region (TTok _ _) ?_
            | refine TR.drawn (TTok _ _) mixed ?_
            | refine TR.block ?_
            | refine TR.ret ?_
            | refine TR.exit ?_
            | refine TR.skip ?_
            | refine TR.condB rfl ?_
            | refine Br.cond_t ?_
            | refine Br.cond_f ?_
            | refine Br.yes (by first | decide | assumption | (apply decide_eq_true; omega)) ?_
            | refine Br.non (by first | decide | assumption | (apply decide_eq_false; omega)) ?_
            | refine Br.cond_ff ?_
            | refine Br.eqT (by omega) ?_
            | refine Br.eqF (by omega) ?_
            | refine Br.neT (by omega) ?_
            | refine Br.neF (by omega) ?_
            | refine Ld.mk' _ rfl ?_
            | refine Need.mk (by first | decide | omega | kernel_rfl) ?_
            | refine Nm.i64 (by omega) ?_
            | refine Nm.u64 (by omega) ?_
            | refine Nm.u8 (by omega) ?_)
        | refine x_exq (TTok _ _) ?_)
    all_goals (conv => whnf)
    all_goals rfl
theorem rfind_any (rs : List Rw) (w : World) (v : Value) (h : SlAt w v rs.length (rs.flatMap rcells)) (hf : ∀ r, r ∈ rs → r.fits) (hn : rs.length < 4294967296) (hok : okR rs) (v6 : Bool) (hi lo : Int) (hh : 0 ≤ hi ∧ hi ≤ 18446744073709551615) (hl : 0 ≤ lo ∧ lo ≤ 18446744073709551615) (res : Option Rw) (hres : FS rs v6 hi lo res) :
    Ret Tryd.prog 12 [v, .agg #[.bool v6, .int .u64 hi, .int .u64 lo]] w (findV res) := by
  have nil : rs = [] → findV res = noF := by
    rintro rfl
    cases res with
    | none => rfl
    | some r => have := hres.1; simp at this
  rcases h with ⟨h0, a, c, rfl⟩ | ⟨ad, c, rfl, hc⟩
  · have : rs = [] := List.eq_nil_of_length_eq_zero h0
    rw [nil this]
    exact rfind_nil a c _ _ _ w
  · cases rs with
    | nil =>
      rw [nil rfl]
      exact rfind_nil _ c _ _ _ w
    | cons r rs =>
      have h1 := hc 0 _ (flat_get (r :: rs) 0 r rfl 0 _ rfl)
      have hs := cell_spot h1
      obtain ⟨b, o, s⟩ := ad
      have hs : s = none := by
        cases s with
        | none => rfl
        | some s => simp [Addr.add] at hs
      subst hs
      refine rfind_ret b o c (r :: rs) w ⟨fun i x hx j u hu => ?_⟩ hf hn hok v6 hi lo hh hl res hres
      have := hc _ _ (flat_get _ i x hx j u hu)
      rw [add_none, ← Nat.add_assoc] at this
      exact this
end Go.Proofs.YtopadpgpmkkpgaaDoor
